/-
  Numbers, bytes, the checksum, values.
-/
import Derived.Test.YtojcklkcjnnkaaaDoorLoop
import Derived.Test.YtojcklkcjnnkaaaDoorFx
import Derived.KernelRfl
namespace Go.Proofs.YtojcklkcjnnkaaaDoor
namespace V
theorem dt {p : Prop} [Decidable p] (h : p) : decide p = true := decide_eq_true h
theorem df {p : Prop} [Decidable p] (h : ¬ p) : ¬ decide p = true := by simpa using h
def FF : Nat := 1125899906842624
def Byte (x : Int) : Prop := 0 ≤ x ∧ x < 256
/-- The bytes of a number, low ones first; the number of bytes. -/
def leb : Nat → Int → List Int
  | 0, _ => []
  | k + 1, n => n % 256 :: leb k (n / 256)
def num : List Int → Int
  | [] => 0
  | b :: r => b + 256 * num r
theorem leb_length : ∀ k n, (leb k n).length = k
  | 0, _ => rfl
  | k + 1, n => by simp [leb, leb_length k]
theorem leb_byte : ∀ k n, ∀ x ∈ leb k n, Byte x
  | 0, _, x, h => by cases h
  | k + 1, n, x, h => by
    rcases List.mem_cons.1 h with rfl | h
    · exact ⟨Int.emod_nonneg _ (by decide), Int.emod_lt_of_pos _ (by decide)⟩
    · exact leb_byte k _ x h
theorem pow_succ256 (k : Nat) : (256 : Int) ^ (k + 1) = 256 * 256 ^ k := by rw [Int.pow_succ, Int.mul_comm]
theorem pow_pos256 (k : Nat) : (0 : Int) < 256 ^ k := Int.pow_pos (by decide)
theorem leb_snoc : ∀ (k : Nat) (n : Int), leb (k + 1) n = leb k n ++ [n / 256 ^ k % 256]
  | 0, n => by simp [leb]
  | k + 1, n => by
    have := leb_snoc k (n / 256)
    rw [leb, this, leb, List.cons_append, pow_succ256, Int.ediv_ediv_of_nonneg (by decide : (0 : Int) ≤ 256)]
theorem num_leb : ∀ (k : Nat) (n : Int), num (leb k n) = n % 256 ^ k
  | 0, n => by simp [leb, num, Int.emod_one]
  | k + 1, n => by
    rw [leb, num, num_leb k, pow_succ256, ← Int.emod_add_mul_ediv (n % (256 * 256 ^ k)) 256]
    have h1 : n % (256 * 256 ^ k) % 256 = n % 256 := Int.emod_emod_of_dvd _ (Int.dvd_mul_right ..)
    have h2 : n % (256 * 256 ^ k) / 256 = n / 256 % 256 ^ k := by
      have := pow_pos256 k
      rw [Int.emod_def, Int.emod_def (n / 256), ← Int.ediv_ediv_of_nonneg (by decide : (0 : Int) ≤ 256), Int.mul_assoc, Int.sub_mul_ediv_left _ _ (by decide)]
    rw [h1, h2]
theorem num_nonneg : ∀ {l : List Int}, (∀ x ∈ l, Byte x) → 0 ≤ num l
  | [], _ => by simp [num]
  | b :: r, h => by
    have h1 := (h b (by simp)).1
    have h2 := num_nonneg (l := r) fun x hx => h x (by simp [hx])
    simp only [num]; omega
theorem num_lt : ∀ {l : List Int}, (∀ x ∈ l, Byte x) → num l < 256 ^ l.length
  | [], _ => by simp [num]
  | b :: r, h => by
    have h1 := (h b (by simp)).2
    have h2 := num_lt (l := r) fun x hx => h x (by simp [hx])
    simp only [num, List.length_cons, pow_succ256]; omega
theorem leb_num : ∀ {l : List Int}, (∀ x ∈ l, Byte x) → leb l.length (num l) = l
  | [], _ => rfl
  | b :: r, h => by
    obtain ⟨h0, h1⟩ := h b (by simp)
    have hr := leb_num (l := r) fun x hx => h x (by simp [hx])
    simp only [List.length_cons, leb, num]
    rw [show (b + 256 * num r) % 256 = b from by omega, show (b + 256 * num r) / 256 = num r from by omega, hr]
theorem num_append : ∀ (l m : List Int), num (l ++ m) = num l + 256 ^ l.length * num m
  | [], m => by simp [num]
  | b :: r, m => by
    simp only [List.cons_append, num, List.length_cons, pow_succ256, num_append r m, Int.mul_add, Int.mul_assoc]
    omega

theorem tmod256 {n : Int} (h : 0 ≤ n) : n.tmod 256 = n % 256 := Int.tmod_eq_emod_of_nonneg h
theorem tdiv256 {n : Int} (h : 0 ≤ n) : n.tdiv 256 = n / 256 := Int.tdiv_eq_ediv_of_nonneg h
theorem app_cat {l m : List Int} (h : l.length + m.length ≤ 140737488355328) : app 1 l m = some (l ++ m) := by
  rw [app_small (by omega) (by omega)]
theorem str_bytes : ∀ {l : List Int}, (∀ x ∈ l, Byte x) → str l = l
  | [], _ => rfl
  | b :: r, h => by
    obtain ⟨h0, h1⟩ := h b (by simp)
    have hr := str_bytes (l := r) fun x hx => h x (by simp [hx])
    unfold str at hr ⊢
    rw [List.map_cons, hr]
    congr 1
    have : (UInt8.ofNat b.toNat).toNat = b.toNat := by
      simp
      omega
    rw [this]
    omega
theorem join_step (F : Nat) (ps : List (List Int)) (l : List Int) (i : Nat) (x : List Int) (hx : ps[i]? = some x) (hl : l.length + x.length ≤ 140737488355328) (hi : ps.length ≤ 9000000000000000000) : octets_Join_l1 F ps l i = some (.next (l ++ x, ((i + 1 : Nat) : Int))) := by
  have hlt : i < ps.length := (List.getElem?_eq_some_iff.1 hx).1
  unfold octets_Join_l1
  have hd : decide ((i : Int) < len ps) = true := by simp [len]; omega
  rw [if_pos hd, idx_nat, hx]
  simp only [Option.bind_some]
  rw [app_cat hl]
  simp only [Option.bind_some]
  rw [w64_nat i (by omega)]
theorem join_two (F : Nat) (a b : List Int) (hF : 2 < F) (h : a.length + b.length ≤ 140737488355328) : octets_Join F [a, b] = some (a ++ b) := by
  unfold octets_Join
  obtain ⟨F', rfl⟩ : ∃ F', F = F' + 1 + 1 + 1 := ⟨F - 3, by omega⟩
  have h1 : octets_Join_l1 (F' + 1 + 1 + 1) [a, b] [] 0 = some (.next (a, 1)) := by simpa using join_step (F' + 1 + 1 + 1) [a, b] [] 0 a rfl (by simp; omega) (by simp)
  have h2 : octets_Join_l1 (F' + 1 + 1 + 1) [a, b] a 1 = some (.next (a ++ b, 2)) := by simpa using join_step (F' + 1 + 1 + 1) [a, b] a 1 b rfl (by omega) (by simp)
  rw [iter_step h1, iter_step h2, iter_stop (o := a ++ b) (by unfold octets_Join_l1; rw [if_neg (by simp [len])])]
  rfl
theorem join_one (F : Nat) (a : List Int) (hF : 1 < F) (h : a.length ≤ 140737488355328) : octets_Join F [a] = some a := by
  unfold octets_Join
  obtain ⟨F', rfl⟩ : ∃ F', F = F' + 1 + 1 := ⟨F - 2, by omega⟩
  have h1 : octets_Join_l1 (F' + 1 + 1) [a] [] 0 = some (.next (a, 1)) := by simpa using join_step (F' + 1 + 1) [a] [] 0 a rfl (by simp; omega) (by simp)
  rw [iter_step h1, iter_stop (o := a) (by unfold octets_Join_l1; rw [if_neg (by simp [len])])]
  rfl

theorem nat_or_add (a b i : Nat) (ha : a < 2 ^ i) : a ||| (b * 2 ^ i) = a + b * 2 ^ i := by
  have h := Nat.shiftLeft_add_eq_or_of_lt ha b
  rw [Nat.shiftLeft_eq] at h
  rw [Nat.or_comm, ← h, Nat.add_comm]
theorem pow256 (i : Nat) : (256 : Int) ^ i = ((2 ^ (8 * i) : Nat) : Int) := by
  rw [Nat.pow_mul, show (2 : Nat) ^ 8 = 256 from by decide]
  exact (congrArg (fun z : Int => z ^ i) (rfl : (256 : Int) = ((256 : Nat) : Int))).trans (Int.natCast_pow 256 i).symm
theorem ior_add (a b : Int) (i : Nat) (hi : i < 8) (h0 : 0 ≤ a) (h1 : a < 256 ^ i) (h2 : Byte b) : ior .u64 a (b * 256 ^ i) = a + b * 256 ^ i := by
  obtain ⟨b0, b1⟩ := h2
  obtain ⟨a, rfl⟩ := Int.eq_ofNat_of_zero_le h0
  obtain ⟨b, rfl⟩ := Int.eq_ofNat_of_zero_le b0
  have hp := pow256 i
  rw [hp] at h1 ⊢
  have ha : a < 2 ^ (8 * i) := by exact_mod_cast h1
  have hb : b < 256 := by omega
  have hle : (2 : Nat) ^ (8 * i) ≤ 2 ^ 56 := Nat.pow_le_pow_right (by decide) (by omega)
  have hbl : b * 2 ^ (8 * i) < 2 ^ 64 := by
    have : b * 2 ^ (8 * i) ≤ 255 * 2 ^ 56 := Nat.mul_le_mul (by omega) hle
    omega
  have hs : a + b * 2 ^ (8 * i) < 2 ^ 64 := by
    have : (b + 1) * 2 ^ (8 * i) ≤ 256 * 2 ^ 56 := Nat.mul_le_mul (by omega) hle
    rw [Nat.add_mul] at this
    omega
  unfold ior
  have e : ((b : Int) * ((2 ^ (8 * i) : Nat) : Int)) = ((b * 2 ^ (8 * i) : Nat) : Int) := by rw [Int.natCast_mul]
  have e2 : (BitVec.ofInt IntKind.u64.bits (a : Int) ||| BitVec.ofInt IntKind.u64.bits ((b : Int) * ((2 ^ (8 * i) : Nat) : Int))).toNat = a + b * 2 ^ (8 * i) := by
    rw [e, BitVec.toNat_or]
    show (BitVec.ofInt 64 (a : Int)).toNat ||| (BitVec.ofInt 64 ((b * 2 ^ (8 * i) : Nat) : Int)).toNat = _
    rw [BitVec.toNat_ofInt, BitVec.toNat_ofInt]
    rw [show (((a : Nat) : Int) % ((2 ^ 64 : Nat) : Int)).toNat = a from by rw [← Int.natCast_emod, Int.toNat_natCast, Nat.mod_eq_of_lt (by omega)]]
    rw [show (((b * 2 ^ (8 * i) : Nat) : Int) % ((2 ^ 64 : Nat) : Int)).toNat = b * 2 ^ (8 * i) from by rw [← Int.natCast_emod, Int.toNat_natCast, Nat.mod_eq_of_lt hbl]]
    exact nat_or_add a b (8 * i) ha
  rw [e2, wrap_u64]
  unfold wu64
  rw [Int.natCast_add, Int.natCast_mul]
  rw [show ((a : Int) + (b : Int) * ((2 ^ (8 * i) : Nat) : Int)) = ((a + b * 2 ^ (8 * i) : Nat) : Int) from by rw [Int.natCast_add, Int.natCast_mul]]
  omega
theorem pow2_nat (i : Nat) : (2 : Int) ^ (8 * i) = ((2 ^ (8 * i) : Nat) : Int) := (congrArg (fun z : Int => z ^ (8 * i)) (rfl : (2 : Int) = ((2 : Nat) : Int))).trans (Int.natCast_pow 2 (8 * i)).symm
theorem shl_le (x i : Nat) (h1 : (x : Int) < 256) (hi : i < 8) : x * 2 ^ (8 * i) ≤ 255 * 2 ^ 56 := by
  have hle : (2 : Nat) ^ (8 * i) ≤ 2 ^ 56 := Nat.pow_le_pow_right (by decide) (by omega)
  exact Nat.mul_le_mul (by omega) hle
theorem wu64_le (q : Nat) (hb : q ≤ 255 * 2 ^ 56) : wu64 (q : Int) = q := by
  rw [wu64_id (by omega) (by omega)]
theorem shl_core (x i : Nat) (hi : i < 8) : ishl .u64 (x : Int) (8 * i) = some (IntKind.u64.wrap ((x : Int) * 2 ^ (8 * i))) := by
  unfold ishl
  rw [if_neg (by omega)]
  have e1 : min (8 * (i : Int)).toNat IntKind.u64.bits = 8 * i := by
    show min (8 * (i : Int)).toNat 64 = 8 * i
    omega
  rw [e1]
theorem shl_bytes {x : Int} (hx : Byte x) (i : Nat) (hi : i < 8) : ishl .u64 (wu64 x) (w64 (8 * i)) = some (x * 256 ^ i) := by
  obtain ⟨h0, h1⟩ := hx
  obtain ⟨x, rfl⟩ := Int.eq_ofNat_of_zero_le h0
  have e1 : w64 (8 * (i : Int)) = 8 * i := w64_id (by omega) (by omega)
  have e2 : wu64 (x : Int) = x := wu64_id (by omega) (by omega)
  have e3 := wu64_le _ (shl_le x i h1 hi)
  rw [Int.natCast_mul, ← pow2_nat] at e3
  have e4 : (256 : Int) ^ i = 2 ^ (8 * i) := (pow256 i).trans (pow2_nat i).symm
  rw [e1, e2, shl_core x i hi, wrap_u64, e3, e4]
theorem shr_bytes {v : Int} (i : Nat) (hi : i ≤ 8) (_h0 : 0 ≤ v) : ishr .u64 v (w64 (8 * i)) = some (v / 256 ^ i) := by
  rw [w64_id (by omega) (by omega)]
  unfold ishr
  rw [if_neg (by omega)]
  have h1 : min (8 * (i : Int)).toNat IntKind.u64.bits = 8 * i := by
    show min (8 * (i : Int)).toNat 64 = 8 * i
    omega
  rw [h1, show (2 : Int) ^ (8 * i) = 256 ^ i from by rw [Int.pow_mul]; rfl, Int.fdiv_eq_ediv_of_nonneg _ (Int.le_of_lt (pow_pos256 i))]
structure FieldOk (f : T_api_Field) : Prop where
  s0 : 1 ≤ f.Size
  s1 : f.Size ≤ 8
  v0 : 0 ≤ f.Value
  v1 : f.Value < 18446744073709551616
  v2 : f.Value < 256 ^ f.Size.toNat
theorem oput_in (F : Nat) (x : T_api_Field) (hx : FieldOk x) (l : List Int) (hl : l.length ≤ 1000000) (hF : 9 < F) : iter (fun s => octets_Put_l2 F x s.1 s.2) F (l, 0) = some (l ++ leb x.Size.toNat x.Value) := by
  obtain ⟨s0, s1, v0, v1, v2⟩ := hx
  have := iter_count (body := fun s : List Int × Int => octets_Put_l2 F x s.1 s.2) (fun i => (l ++ leb i x.Value, (i : Int))) x.Size.toNat (l ++ leb x.Size.toNat x.Value) (by
    intro i hi
    show octets_Put_l2 F x (l ++ leb i x.Value) i = _
    unfold octets_Put_l2
    rw [if_pos (by simp; omega), shr_bytes i (by omega) v0]
    simp only [Option.bind_some]
    rw [app_cat (by simp [leb_length]; omega)]
    simp only [Option.bind_some]
    rw [w64_nat i (by omega), leb_snoc, List.append_assoc]
    rfl) (by
    show octets_Put_l2 F x _ _ = _
    unfold octets_Put_l2
    rw [if_neg (by simp; omega)]) F 0 (by omega) (by omega)
  simpa [leb] using this
def putAll (fs : List T_api_Field) : List Int := (fs.map fun f => leb f.Size.toNat f.Value).flatten
theorem putAll_len : ∀ {fs : List T_api_Field}, (∀ f ∈ fs, FieldOk f) → (putAll fs).length ≤ 8 * fs.length
  | [], _ => by simp [putAll]
  | f :: fs, h => by
    have h1 := h f (by simp)
    have h2 := putAll_len (fs := fs) fun g hg => h g (by simp [hg])
    obtain ⟨s0, s1, _⟩ := h1
    simp only [putAll, List.map_cons, List.flatten_cons, List.length_append, leb_length, List.length_cons] at h2 ⊢
    omega
theorem oput_ok (F : Nat) (fs : List T_api_Field) (h : ∀ f ∈ fs, FieldOk f) (hn : fs.length ≤ 1000) (hF : fs.length + 9 < F) : octets_Put F fs = some (putAll fs, 0) := by
  unfold octets_Put
  have := iter_count (body := fun s : List Int × Int => octets_Put_l1 F fs s.1 s.2) (fun i => (putAll (fs.take i), (i : Int))) fs.length (.inl (putAll fs)) (by
    intro i hi
    have hx : fs[i]? = some fs[i] := List.getElem?_eq_getElem hi
    have hf := h fs[i] (List.getElem_mem hi)
    have hlen := putAll_len (fs := fs.take i) (fun f hf => h f (List.mem_of_mem_take hf))
    have htl : (fs.take i).length ≤ i := by simp; omega
    show octets_Put_l1 F fs (putAll (fs.take i)) i = _
    unfold octets_Put_l1
    rw [if_pos (by simp [len]; omega), idx_nat, hx]
    simp only [Option.bind_some, octets_sized]
    obtain ⟨s0, s1, v0, v1, v2⟩ := hf
    have hsz : (!(decide (fs[i].Size ≥ 1) && decide (fs[i].Size ≤ 8))) = false := by simp; omega
    rw [hsz]
    simp only [Bool.false_eq_true, if_false]
    have hz : ((if decide (fs[i].Size < 8) = true then (ishr IntKind.u64 fs[i].Value (w64 (8 * fs[i].Size))).bind fun x_16 => some (x_16 != 0) else some false)) = some false := by
      by_cases h8 : fs[i].Size < 8
      · rw [if_pos (by simpa using h8)]
        have := shr_bytes (v := fs[i].Value) fs[i].Size.toNat (by omega) v0
        rw [show ((fs[i].Size.toNat : Nat) : Int) = fs[i].Size from by omega] at this
        rw [this, Int.ediv_eq_zero_of_lt v0 v2]
        rfl
      · rw [if_neg (by simpa using h8)]
    rw [hz]
    simp only [Option.bind_some, Bool.false_eq_true, if_false]
    rw [oput_in F fs[i] ⟨s0, s1, v0, v1, v2⟩ _ (by omega) (by omega)]
    simp only [Option.bind_some, octets_Put_j2]
    rw [w64_nat i (by omega), List.take_add_one, hx]
    simp only [putAll, List.map_append, List.flatten_append, Option.toList_some, List.map_cons, List.map_nil, List.flatten_cons, List.flatten_nil, List.append_nil]) (by
    show octets_Put_l1 F fs _ _ = _
    unfold octets_Put_l1
    rw [if_neg (by simp [len]), List.take_length]) F 0 (by omega) (by omega)
  simp only [List.take_zero] at this
  have h0 : (putAll [], ((0 : Nat) : Int)) = (([] : List Int), (0 : Int)) := rfl
  rw [h0] at this
  rw [this]
  rfl


def U64 (x : Int) : Prop := 0 ≤ x ∧ x < 18446744073709551616
theorem num_rng {l : List Int} (hb : ∀ x ∈ l, Byte x) (hl : l.length ≤ 8) : U64 (num l) := by
  have h1 := num_lt hb
  have h2 : (256 : Int) ^ l.length ≤ 256 ^ 8 := by
    have h2 : (256 : Nat) ^ l.length ≤ 256 ^ 8 := Nat.pow_le_pow_right (by decide) hl
    have h3 : ((256 ^ l.length : Nat) : Int) ≤ ((256 ^ 8 : Nat) : Int) := Int.ofNat_le.2 h2
    rw [Int.natCast_pow, Int.natCast_pow] at h3
    exact h3
  rw [show (256 : Int) ^ 8 = 18446744073709551616 from rfl] at h2
  exact ⟨num_nonneg hb, by omega⟩
theorem chunk_r (F : Nat) (l : List Int) (hb : ∀ x ∈ l, Byte x) (hl : l.length ≤ 8) (hF : 8 < F) : wirelessref02_Value F l = some (num l) := by
  unfold wirelessref02_Value
  have := iter_count (body := fun s : Int × Int => wirelessref02_Value_l1 F l s.1 s.2) (fun j => (num (l.drop (l.length - j)), ((l.length - j : Nat) : Int) - 1)) l.length (num l) (by
    intro j hj
    have hi : l.length - j - 1 < l.length := by omega
    have hx : l[l.length - j - 1]? = some l[l.length - j - 1] := List.getElem?_eq_getElem hi
    have hdr : l.drop (l.length - j - 1) = l[l.length - j - 1] :: l.drop (l.length - j - 1 + 1) := List.drop_eq_getElem_cons hi
    have hby := hb _ (List.getElem_mem hi)
    generalize l[l.length - j - 1] = x at hx hdr hby
    have hn := num_rng (l := l.drop (l.length - j - 1)) (fun y hy => hb y (List.mem_of_mem_drop hy)) (by rw [List.length_drop]; omega)
    have hn2 := num_nonneg (l := l.drop (l.length - j)) (fun y hy => hb y (List.mem_of_mem_drop hy))
    rw [show l.length - j - 1 + 1 = l.length - j from by omega] at hdr
    rw [hdr, num] at hn
    obtain ⟨hn0, hn1⟩ := hn
    obtain ⟨hb0, hb1⟩ := hby
    show wirelessref02_Value_l1 F l (num (l.drop (l.length - j))) (((l.length - j : Nat) : Int) - 1) = _
    unfold wirelessref02_Value_l1
    rw [if_pos (dt (by omega)), show ((l.length - j : Nat) : Int) - 1 = ((l.length - j - 1 : Nat) : Int) from by omega, idx_nat, hx, Option.bind_some, wu64_id (x := num (l.drop (l.length - j)) * 256) (by omega) (by omega), wu64_id (x := x) (by omega) (by omega), wu64_id (by omega) (by omega), w64_id (by omega) (by omega)]
    rw [show l.length - (j + 1) = l.length - j - 1 from by omega, hdr, num]
    congr 3
    omega) (by
    show wirelessref02_Value_l1 F l _ (((l.length - l.length : Nat) : Int) - 1) = _
    unfold wirelessref02_Value_l1
    rw [if_neg (df (by omega)), Nat.sub_self, List.drop_zero]) F 0 (by omega) (by omega)
  have h0 : num (l.drop (l.length - 0)) = 0 := by rw [Nat.sub_zero, List.drop_length]; rfl
  rw [h0] at this
  rw [len_nat, w64_id (by omega) (by omega)]
  rw [show ((l.length - 0 : Nat) : Int) - 1 = (l.length : Int) - 1 from by omega] at this
  rw [this, Option.bind_some]
  rfl
theorem rnum8_step (F : Nat) (size n i : Int) (l : List Int) (h0 : 0 ≤ n) (h1 : n < 18446744073709551616) (hl : l.length ≤ 1000000) (hi : 0 ≤ i ∧ i < 1000) (hs : i < size) : wirelessref02_Num_l1 F size n l i = some (.next (n / 256, l ++ [n % 256], i + 1)) := by
  unfold wirelessref02_Num_l1
  rw [if_pos (by simpa using hs)]
  simp only [remp, quop, tmod256 h0, tdiv256 h0, wrap_u64]
  rw [wu8_id (by omega) (by omega), app_cat (by simp; omega)]
  simp only [Option.bind_some]
  rw [wu64_id (by omega) (by omega), w64_id (by omega) (by omega)]
theorem rnum_ok (F : Nat) (k : Nat) (n : Int) (hF : 9 < F) (hk : k ≤ 8) (h : U64 n) : wirelessref02_Num F (k : Int) n = some (leb k n) := by
  have key : ∀ (m f : Nat) (n i : Int) (l : List Int), 0 ≤ n → n < 18446744073709551616 → l.length ≤ 1000 - m → m ≤ 8 → 0 ≤ i → i + m = k → m < f → iter (fun s : Int × List Int × Int => wirelessref02_Num_l1 F k s.1 s.2.1 s.2.2) f (n, l, i) = some (l ++ leb m n) := by
    intro m
    induction m with
    | zero =>
      intro f n i l h0 h1 hl hm hi hik hf
      cases f with
      | zero => omega
      | succ f =>
        rw [iter_stop (o := l) (by unfold wirelessref02_Num_l1; rw [if_neg (by simp; omega)])]
        simp [leb]
    | succ m ih =>
      intro f n i l h0 h1 hl hm hi hik hf
      cases f with
      | zero => omega
      | succ f =>
        rw [iter_step (rnum8_step F k n i l h0 h1 (by omega) (by omega) (by omega)), ih f (n / 256) (i + 1) (l ++ [n % 256]) (by omega) (by omega) (by simp; omega) (by omega) (by omega) (by omega) (by omega)]
        simp [leb]
  unfold wirelessref02_Num
  rw [key k F n 0 [] h.1 h.2 (by simp) hk (by omega) (by omega) (by omega), Option.bind_some]
  rfl
/-- One round without a bit. -/
def cs (r : Nat) : Nat := r / 2 ^^^ (if r % 2 = 1 then 14311424 else 0)
theorem xor_half (a b : Nat) : (a ^^^ b) / 2 = a / 2 ^^^ b / 2 := by
  have := Nat.xor_div_two_pow (a := a) (b := b) (n := 1)
  simpa using this
theorem xor_low (a b : Nat) : (a ^^^ b) % 2 = (a % 2) ^^^ (b % 2) := by
  have := Nat.xor_mod_two_pow (a := a) (b := b) (n := 1)
  simpa using this
theorem cs_xor (a b : Nat) : cs (a ^^^ b) = cs a ^^^ cs b := by
  unfold cs
  rw [xor_half, xor_low]
  have h1 := Nat.mod_two_eq_zero_or_one a
  have h2 := Nat.mod_two_eq_zero_or_one b
  rcases h1 with h1 | h1 <;> rcases h2 with h2 | h2 <;> rw [h1, h2]
  · simp
  · simp [Nat.xor_assoc]
  · rw [if_pos (by decide), if_pos rfl, if_neg (by decide), Nat.xor_zero, Nat.xor_assoc, Nat.xor_assoc, Nat.xor_comm (b / 2)]
  · rw [if_neg (by decide), Nat.xor_zero]
    simp only [if_true]
    rw [Nat.xor_assoc, ← Nat.xor_assoc 14311424, Nat.xor_comm 14311424 (b / 2), Nat.xor_assoc (b / 2), Nat.xor_self, Nat.xor_zero]
theorem cs_two (z : Nat) : cs (2 * z) = z := by
  unfold cs
  rw [if_neg (by omega), Nat.xor_zero]
  omega
def tabN : List Nat := [0, 1788928, 3577856, 3003392, 7155712, 7764992, 6006784, 4252672, 14311424, 12659712, 15529984, 16233472, 12013568, 11279360, 8505344, 10126336]
theorem or_xor {a b : Nat} (h : a &&& b = 0) : a ||| b = a ^^^ b := by
  apply Nat.eq_of_testBit_eq
  intro i
  have := congrArg (fun z => z.testBit i) h
  simp only [Nat.testBit_and, Nat.zero_testBit] at this
  rw [Nat.testBit_or, Nat.testBit_xor]
  revert this
  cases a.testBit i <;> cases b.testBit i <;> simp
theorem split2 (k y : Nat) : y = (2 ^ k * (y / 2 ^ k)) ^^^ (y % 2 ^ k) := by
  apply Nat.eq_of_testBit_eq
  intro i
  rw [Nat.testBit_xor, Nat.testBit_mod_two_pow, Nat.testBit_two_pow_mul, Nat.testBit_div_two_pow]
  by_cases h : i < k
  · simp [h, show ¬ k ≤ i from by omega]
  · simp [h, show k ≤ i from by omega]
theorem split16 (y : Nat) : y = (16 * (y / 16)) ^^^ (y % 16) := split2 4 y
theorem cs4 (y : Nat) : cs (cs (cs (cs y))) = y / 16 ^^^ tabN.getD (y % 16) 0 := by
  have h : y = (16 * (y / 16)) ^^^ (y % 16) := split16 y
  have hl : ∀ l, l < 16 → cs (cs (cs (cs l))) = tabN.getD l 0 := by decide
  have hh : ∀ z, cs (cs (cs (cs (16 * z)))) = z := fun z => by
    rw [show 16 * z = 2 * (2 * (2 * (2 * z))) from by omega, cs_two, cs_two, cs_two, cs_two]
  calc cs (cs (cs (cs y))) = cs (cs (cs (cs ((16 * (y / 16)) ^^^ (y % 16))))) := by rw [← h]
    _ = _ := by rw [cs_xor, cs_xor, cs_xor, cs_xor, hh, hl _ (Nat.mod_lt _ (by decide))]
/-- One round with a bit. -/
theorem bit_in (r b : Nat) (hb : b < 2) : (if (r % 2 ^^^ b) = 1 then r / 2 ^^^ 14311424 else r / 2) = cs (r ^^^ b) := by
  unfold cs
  rw [xor_half, xor_low, show b / 2 = 0 from by omega, Nat.xor_zero]
  have h1 := Nat.mod_two_eq_zero_or_one r
  have h2 : b = 0 ∨ b = 1 := by omega
  rcases h1 with h1 | h1 <;> rcases h2 with rfl | rfl <;> rw [h1] <;> simp
theorem cs_more (r x b : Nat) : cs r ^^^ b = cs (r ^^^ 2 * b) := by
  rw [cs_xor, cs_two]
theorem four_bits (r x : Nat) : cs (cs (cs (cs (r ^^^ x % 2) ^^^ x / 2 % 2) ^^^ x / 2 / 2 % 2) ^^^ x / 2 / 2 / 2 % 2) = r / 16 ^^^ tabN.getD ((r ^^^ x) % 16) 0 := by
  have h : ((x % 2 ^^^ 2 * (x / 2 % 2)) ^^^ 2 * (2 * (x / 2 / 2 % 2))) ^^^ 2 * (2 * (2 * (x / 2 / 2 / 2 % 2))) = x % 16 := by
    have a0 := Nat.mod_lt x (show 0 < 2 by decide)
    have a1 := Nat.mod_lt (x / 2) (show 0 < 2 by decide)
    have a2 := Nat.mod_lt (x / 2 / 2) (show 0 < 2 by decide)
    have a3 := Nat.mod_lt (x / 2 / 2 / 2) (show 0 < 2 by decide)
    have e : x % 16 = x % 2 + 2 * (x / 2 % 2) + 4 * (x / 2 / 2 % 2) + 8 * (x / 2 / 2 / 2 % 2) := by omega
    rw [e]
    generalize x % 2 = b0 at *
    generalize x / 2 % 2 = b1 at *
    generalize x / 2 / 2 % 2 = b2 at *
    generalize x / 2 / 2 / 2 % 2 = b3 at *
    clear e
    have c0 : b0 = 0 ∨ b0 = 1 := by omega
    have c1 : b1 = 0 ∨ b1 = 1 := by omega
    have c2 : b2 = 0 ∨ b2 = 1 := by omega
    have c3 : b3 = 0 ∨ b3 = 1 := by omega
    rcases c0 with rfl | rfl <;> rcases c1 with rfl | rfl <;> rcases c2 with rfl | rfl <;> rcases c3 with rfl | rfl <;> rfl
  have h2 : cs (cs (cs (cs (r ^^^ x % 2) ^^^ x / 2 % 2) ^^^ x / 2 / 2 % 2) ^^^ x / 2 / 2 / 2 % 2) = cs (cs (cs (cs (r ^^^ x % 16)))) := by
    rw [← h]
    generalize x % 2 = b0
    generalize x / 2 % 2 = b1
    generalize x / 2 / 2 % 2 = b2
    generalize x / 2 / 2 / 2 % 2 = b3
    simp only [cs_xor, cs_two, Nat.xor_assoc]
  rw [h2, cs4]
  have e1 : (r ^^^ x % 16) / 16 = r / 16 := by
    have := Nat.xor_div_two_pow (a := r) (b := x % 16) (n := 4)
    rw [show (2 : Nat) ^ 4 = 16 from rfl] at this
    rw [this, Nat.div_eq_of_lt (Nat.mod_lt x (show 0 < 16 by decide)), Nat.xor_zero]
  have e2 : (r ^^^ x % 16) % 16 = (r ^^^ x) % 16 := by
    have h1 := Nat.xor_mod_two_pow (a := r) (b := x % 16) (n := 4)
    have h2 := Nat.xor_mod_two_pow (a := r) (b := x) (n := 4)
    rw [show (2 : Nat) ^ 4 = 16 from rfl] at h1 h2
    rw [h1, h2, Nat.mod_mod]
  rw [e1, e2]
theorem bv32 {a : Nat} (h : a < 4294967296) : (BitVec.ofInt 32 (a : Int)).toNat = a := by
  rw [BitVec.toNat_ofInt]
  rw [show (((a : Nat) : Int) % ((2 ^ 32 : Nat) : Int)).toNat = a from by rw [← Int.natCast_emod, Int.toNat_natCast, Nat.mod_eq_of_lt h]]
theorem wrap32 {a : Nat} (h : a < 4294967296) : IntKind.u32.wrap (a : Int) = a := by
  rw [wrap_u32, wu32_id (by omega) (by omega)]
theorem ixor_nat {a b : Nat} (ha : a < 4294967296) (hb : b < 4294967296) : ixor .u32 (a : Int) (b : Int) = ((a ^^^ b : Nat) : Int) := by
  unfold ixor
  rw [BitVec.toNat_xor]
  show IntKind.u32.wrap (((BitVec.ofInt 32 (a : Int)).toNat ^^^ (BitVec.ofInt 32 (b : Int)).toNat : Nat) : Int) = _
  rw [bv32 ha, bv32 hb, wrap32 (Nat.xor_lt_two_pow (n := 32) ha hb)]
theorem iand15 {a : Nat} (ha : a < 4294967296) : iand .u32 (a : Int) 15 = ((a % 16 : Nat) : Int) := by
  unfold iand
  rw [BitVec.toNat_and]
  show IntKind.u32.wrap (((BitVec.ofInt 32 (a : Int)).toNat &&& 15 : Nat) : Int) = _
  rw [bv32 ha, show a &&& 15 = a % 16 from Nat.and_two_pow_sub_one_eq_mod a 4, wrap32 (by omega)]
theorem shr4 (a : Nat) : shrp (a : Int) 4 = ((a / 16 : Nat) : Int) := by
  unfold shrp
  rw [Int.fdiv_eq_ediv_of_nonneg _ (by decide)]
  omega
def tabI : List Int := [0, 1788928, 3577856, 3003392, 7155712, 7764992, 6006784, 4252672, 14311424, 12659712, 15529984, 16233472, 12013568, 11279360, 8505344, 10126336]
theorem tab_at (i : Nat) (h : i < 16) : idx tabI (i : Int) = some ((tabN.getD i 0 : Nat) : Int) := by
  rw [idx_nat]
  have : ∀ i, i < 16 → tabI[i]? = some ((tabN.getD i 0 : Nat) : Int) := by decide
  exact this i h
theorem tab_lt (i : Nat) (h : i < 16) : tabN.getD i 0 < 16777216 := by
  have : ∀ i, i < 16 → tabN.getD i 0 < 16777216 := by decide
  exact this i h
def nib (r x : Nat) : Nat := r / 16 ^^^ tabN.getD ((r ^^^ x) % 16) 0
theorem nib_lt {r x : Nat} (hr : r < 16777216) : nib r x < 16777216 := Nat.xor_lt_two_pow (n := 24) (by omega) (tab_lt _ (Nat.mod_lt _ (by decide)))
theorem crc_feed_eq (F : Nat) (r x : Nat) (hr : r < 16777216) (hx : x < 256) : crc_feed F (r : Int) (x : Int) = some ((nib (nib r x) (x / 16) : Nat) : Int) := by
  unfold crc_feed
  have hn := nib_lt (x := x) hr
  have hx1 : r ^^^ x < 16777216 := Nat.xor_lt_two_pow (n := 24) hr (by omega)
  have hx2 : nib r x ^^^ x / 16 < 16777216 := Nat.xor_lt_two_pow (n := 24) hn (by omega)
  rw [wu32_id (by omega) (by omega), ixor_nat (by omega) (by omega), iand15 (by omega)]
  show (idx tabI _).bind _ = _
  rw [tab_at _ (Nat.mod_lt _ (by decide)), Option.bind_some, shr4, ixor_nat (by omega) (by have := tab_lt ((r ^^^ x) % 16) (Nat.mod_lt _ (by decide)); omega)]
  show (idx tabI (iand .u32 (ixor .u32 ((nib r x : Nat) : Int) _) 15)).bind (fun x_4 => some (ixor .u32 (shrp ((nib r x : Nat) : Int) 4) x_4)) = _
  rw [shr4, wu32_id (by omega) (by omega), ixor_nat (by omega) (by omega), iand15 (by omega), tab_at _ (Nat.mod_lt _ (by decide)), Option.bind_some, shr4, ixor_nat (by omega) (by have := tab_lt ((nib r x ^^^ x / 16) % 16) (Nat.mod_lt _ (by decide)); omega)]
  rfl
theorem cs_lt {r : Nat} (h : r < 16777216) : cs r < 16777216 := by
  unfold cs
  exact Nat.xor_lt_two_pow (n := 24) (by omega) (by split <;> omega)
theorem in_lt {r b : Nat} (h : r < 16777216) (hb : b < 2) : r ^^^ b < 16777216 := Nat.xor_lt_two_pow (n := 24) h (by omega)
theorem rfeed_eq (F : Nat) (r b : Nat) (hr : r < 16777216) (hb : b < 2) : wirelessref03_feed F (r : Int) (b : Int) = some ((cs (r ^^^ b) : Nat) : Int) := by
  unfold wirelessref03_feed wirelessref03_feed_j1
  have e1 : remp (r : Int) 2 = ((r % 2 : Nat) : Int) := by unfold remp; rw [Int.tmod_eq_emod_of_nonneg (by omega)]; omega
  have e2 : quop .u32 (r : Int) 2 = ((r / 2 : Nat) : Int) := by unfold quop; rw [Int.tdiv_eq_ediv_of_nonneg (by omega), show (r : Int) / 2 = ((r / 2 : Nat) : Int) from by omega, wrap32 (by omega)]
  rw [e1, e2, ixor_nat (by omega) (by omega), ← bit_in r b hb]
  rw [show (14311424 : Int) = ((14311424 : Nat) : Int) from rfl, ixor_nat (by omega) (by omega)]
  by_cases h : (r % 2 ^^^ b) = 1
  · rw [if_pos (by rw [h]; rfl), if_pos h]
  · rw [if_neg (by simp; omega), if_neg h]
/-- Register and what is left of the byte after some rounds. -/
def rn (r x : Nat) : Nat → Nat × Nat
  | 0 => (r, x)
  | i + 1 => (cs ((rn r x i).1 ^^^ (rn r x i).2 % 2), (rn r x i).2 / 2)
theorem rn_lt {r x : Nat} (hr : r < 16777216) (hx : x < 256) : ∀ i, (rn r x i).1 < 16777216 ∧ (rn r x i).2 < 256
  | 0 => ⟨hr, hx⟩
  | i + 1 => by
    have h := rn_lt hr hx i
    exact ⟨cs_lt (in_lt h.1 (Nat.mod_lt _ (by decide))), by simp only [rn]; omega⟩
theorem rn8 (r x : Nat) : (rn r x 8).1 = nib (nib r x) (x / 16) := by
  have e : x / 16 = x / 2 / 2 / 2 / 2 := by omega
  rw [e]
  simp only [rn, four_bits]
  rfl
theorem rsum_in (F : Nat) (r x : Nat) (hr : r < 16777216) (hx : x < 256) (hF : 9 < F) : iter (fun s : Int × Int × Int => wirelessref03_Sum_l2 F s.1 s.2.1 s.2.2) F ((r : Int), (x : Int), 0) = some ((nib (nib r x) (x / 16) : Nat) : Int) := by
  rw [← rn8]
  exact iter_count (body := fun s : Int × Int × Int => wirelessref03_Sum_l2 F s.1 s.2.1 s.2.2) (fun i => (((rn r x i).1 : Int), ((rn r x i).2 : Int), (i : Int))) 8 (((rn r x 8).1 : Nat) : Int) (by
    intro i hi
    obtain ⟨h1, h2⟩ := rn_lt hr hx i
    show wirelessref03_Sum_l2 F ((rn r x i).1 : Int) ((rn r x i).2 : Int) (i : Int) = some (.next (((cs ((rn r x i).1 ^^^ (rn r x i).2 % 2) : Nat) : Int), (((rn r x i).2 / 2 : Nat) : Int), ((i + 1 : Nat) : Int)))
    generalize (rn r x i).1 = a at *
    generalize (rn r x i).2 = c at *
    unfold wirelessref03_Sum_l2
    have e1 : remp (c : Int) 2 = ((c % 2 : Nat) : Int) := by unfold remp; rw [Int.tmod_eq_emod_of_nonneg (by omega)]; omega
    have e2 : quop .u32 (c : Int) 2 = ((c / 2 : Nat) : Int) := by unfold quop; rw [Int.tdiv_eq_ediv_of_nonneg (by omega), show (c : Int) / 2 = ((c / 2 : Nat) : Int) from by omega, wrap32 (by omega)]
    rw [if_pos (decide_eq_true (by omega)), e1, rfeed_eq F a (c % 2) h1 (Nat.mod_lt _ (by decide)), Option.bind_some, e2, w64_nat i (by omega)]) (by
    show wirelessref03_Sum_l2 F _ _ ((8 : Nat) : Int) = _
    unfold wirelessref03_Sum_l2
    rw [if_neg (by decide)]) F 0 (by omega) (by omega)
/-- The checksum of bytes. -/
def crcs (r : Nat) : List Int → Nat
  | [] => r
  | x :: l => crcs (nib (nib r x.toNat) (x.toNat / 16)) l
theorem crcs_lt {r : Nat} (hr : r < 16777216) : ∀ l, crcs r l < 16777216
  | [] => hr
  | x :: l => crcs_lt (nib_lt (nib_lt hr)) l
theorem crcs_snoc : ∀ (l : List Int) (r : Nat) (x : Int), crcs r (l ++ [x]) = nib (nib (crcs r l) x.toNat) (x.toNat / 16)
  | [], r, x => rfl
  | y :: l, r, x => by rw [List.cons_append, crcs, crcs, crcs_snoc l]
theorem crc_sum_eq (F : Nat) (b : List Int) (hb : ∀ x ∈ b, Byte x) (hl : b.length + 1 < F) (hF : F ≤ FF) : crc_Sum F 0 b = some ((crcs 0 b : Nat) : Int) := by
  unfold crc_Sum
  have hFF : FF = 1125899906842624 := rfl
  rw [show iand .u32 0 16777215 = 0 from by decide]
  have h : iter (fun s : Int × Int => crc_Sum_l1 F b s.1 s.2) F (0, 0) = some ((crcs 0 b : Nat) : Int) := iter_count (body := fun s : Int × Int => crc_Sum_l1 F b s.1 s.2) (fun i => (((crcs 0 (b.take i) : Nat) : Int), (i : Int))) b.length ((crcs 0 b : Nat) : Int) (by
    intro i hi
    show crc_Sum_l1 F b _ (i : Int) = _
    unfold crc_Sum_l1
    have hx : b[i]? = some b[i] := List.getElem?_eq_getElem hi
    have hby := hb _ (List.getElem_mem hi)
    rw [List.take_add_one, hx, Option.toList_some, crcs_snoc]
    generalize b[i] = x at *
    obtain ⟨h0, h1⟩ := hby
    obtain ⟨x, rfl⟩ := Int.eq_ofNat_of_zero_le h0
    have hc := crcs_lt (r := 0) (by decide) (b.take i)
    rw [if_pos (dt (by rw [len_nat]; omega)), idx_nat, hx, Option.bind_some, crc_feed_eq F _ _ hc (by omega), Option.bind_some, w64_nat i (by omega)]
    rfl) (by
    show crc_Sum_l1 F b _ _ = _
    unfold crc_Sum_l1
    rw [if_neg (df (by rw [len_nat]; omega)), List.take_length]) F 0 (by omega) (by omega)
  rw [h]
  rfl
theorem ref_sum_eq (F : Nat) (b : List Int) (hb : ∀ x ∈ b, Byte x) (hl : b.length + 9 < F) (hF : F ≤ FF) : wirelessref03_Sum F 0 b = some ((crcs 0 b : Nat) : Int) := by
  unfold wirelessref03_Sum
  have hFF : FF = 1125899906842624 := rfl
  rw [show remp 0 16777216 = 0 from by decide]
  have h : iter (fun s : Int × Int => wirelessref03_Sum_l1 F b s.1 s.2) F (0, 0) = some ((crcs 0 b : Nat) : Int) := iter_count (body := fun s : Int × Int => wirelessref03_Sum_l1 F b s.1 s.2) (fun i => (((crcs 0 (b.take i) : Nat) : Int), (i : Int))) b.length ((crcs 0 b : Nat) : Int) (by
    intro i hi
    show wirelessref03_Sum_l1 F b _ (i : Int) = _
    unfold wirelessref03_Sum_l1 wirelessref03_Sum_j2
    have hx : b[i]? = some b[i] := List.getElem?_eq_getElem hi
    have hby := hb _ (List.getElem_mem hi)
    rw [List.take_add_one, hx, Option.toList_some, crcs_snoc]
    generalize b[i] = x at *
    obtain ⟨h0, h1⟩ := hby
    obtain ⟨x, rfl⟩ := Int.eq_ofNat_of_zero_le h0
    have hc := crcs_lt (r := 0) (by decide) (b.take i)
    rw [if_pos (dt (by rw [len_nat]; omega)), idx_nat, hx, Option.bind_some, wu32_id (by omega) (by omega), rsum_in F _ _ hc (by omega) (by omega), Option.bind_some, w64_nat i (by omega)]
    rfl) (by
    show wirelessref03_Sum_l1 F b _ _ = _
    unfold wirelessref03_Sum_l1
    rw [if_neg (df (by rw [len_nat]; omega)), List.take_length]) F 0 (by omega) (by omega)
  rw [h]
  rfl
theorem bv64 {a : Nat} (h : a < 18446744073709551616) : (BitVec.ofInt 64 (a : Int)).toNat = a := by
  rw [BitVec.toNat_ofInt]
  rw [show (((a : Nat) : Int) % ((2 ^ 64 : Nat) : Int)).toNat = a from by rw [← Int.natCast_emod, Int.toNat_natCast, Nat.mod_eq_of_lt h]]
theorem ior8 (x b : Nat) (hx : x < 281474976710656) (hb : b < 256) : ior .i64 ((x * 256 : Nat) : Int) (b : Int) = ((x * 256 + b : Nat) : Int) := by
  unfold ior
  rw [BitVec.toNat_or]
  show IntKind.i64.wrap (((BitVec.ofInt 64 ((x * 256 : Nat) : Int)).toNat ||| (BitVec.ofInt 64 (b : Int)).toNat : Nat) : Int) = _
  rw [bv64 (by omega), bv64 (by omega), Nat.or_comm, nat_or_add b x 8 hb, wrap_i64, w64_id (by omega) (by omega)]
  congr 1
  omega
theorem value_eq (F : Nat) (l : List Int) (hb : ∀ x ∈ l, Byte x) (hl : l.length ≤ 6) (hF : 8 < F) : flash_value F l = some (num l) := by
  unfold flash_value
  have := iter_count (body := fun s : Int × Int => flash_value_l1 F l s.1 s.2) (fun j => (num (l.drop (l.length - j)), ((l.length - j : Nat) : Int) - 1)) l.length (num l) (by
    intro j hj
    have hi : l.length - j - 1 < l.length := by omega
    have hx : l[l.length - j - 1]? = some l[l.length - j - 1] := List.getElem?_eq_getElem hi
    have hdr : l.drop (l.length - j - 1) = l[l.length - j - 1] :: l.drop (l.length - j - 1 + 1) := List.drop_eq_getElem_cons hi
    have hby := hb _ (List.getElem_mem hi)
    generalize l[l.length - j - 1] = x at hx hdr hby
    have hn0 := num_nonneg (l := l.drop (l.length - j)) (fun y hy => hb y (List.mem_of_mem_drop hy))
    have hn1 := num_lt (l := l.drop (l.length - j)) (fun y hy => hb y (List.mem_of_mem_drop hy))
    have hn2 : (256 : Int) ^ (l.drop (l.length - j)).length ≤ 281474976710656 := by
      have h2 : (256 : Nat) ^ (l.drop (l.length - j)).length ≤ 256 ^ 6 := Nat.pow_le_pow_right (by decide) (by rw [List.length_drop]; omega)
      have h3 : ((256 ^ (l.drop (l.length - j)).length : Nat) : Int) ≤ ((256 ^ 6 : Nat) : Int) := Int.ofNat_le.2 h2
      rw [Int.natCast_pow] at h3
      exact h3
    rw [show l.length - j - 1 + 1 = l.length - j from by omega] at hdr
    obtain ⟨hb0, hb1⟩ := hby
    show flash_value_l1 F l (num (l.drop (l.length - j))) (((l.length - j : Nat) : Int) - 1) = _
    unfold flash_value_l1
    rw [if_pos (dt (by omega)), show ((l.length - j : Nat) : Int) - 1 = ((l.length - j - 1 : Nat) : Int) from by omega, idx_nat, hx, Option.bind_some]
    rw [show l.length - (j + 1) = l.length - j - 1 from by omega, hdr, num]
    generalize num (l.drop (l.length - j)) = n at *
    obtain ⟨n, rfl⟩ := Int.eq_ofNat_of_zero_le hn0
    obtain ⟨x, rfl⟩ := Int.eq_ofNat_of_zero_le hb0
    have e : shlp .i64 (n : Int) 8 = ((n * 256 : Nat) : Int) := by
      unfold shlp
      rw [wrap_i64, w64_id (by omega) (by omega)]
      omega
    rw [e, w64_id (x := (x : Int)) (by omega) (by omega), ior8 n x (by omega) (by omega), w64_id (by omega) (by omega)]
    congr 3
    omega) (by
    show flash_value_l1 F l _ (((l.length - l.length : Nat) : Int) - 1) = _
    unfold flash_value_l1
    rw [if_neg (df (by omega)), Nat.sub_self, List.drop_zero]) F 0 (by omega) (by omega)
  have h0 : num (l.drop (l.length - 0)) = 0 := by rw [Nat.sub_zero, List.drop_length]; rfl
  rw [h0] at this
  rw [len_nat, w64_id (by omega) (by omega)]
  rw [show ((l.length - 0 : Nat) : Int) - 1 = (l.length : Int) - 1 from by omega] at this
  rw [this, Option.bind_some]
  rfl
theorem number_eq (F : Nat) (k : Nat) (v : Int) (hk : 1 ≤ k ∧ k ≤ 8) (h0 : 0 ≤ v) (h1 : v < 256 ^ k) (h2 : v < 18446744073709551616) (hF : 20 < F) : flash_number F (k : Int) v = some (leb k v) := by
  unfold flash_number
  rw [oput_ok F [T_api_Field.mk (k : Int) v] (by
    intro f hf
    rw [List.mem_singleton] at hf
    subst hf
    exact ⟨by simp only; omega, by simp only; omega, h0, h2, h1⟩) (by simp) (by simp; omega)]
  show some (leb ((k : Int).toNat) v ++ []) = _
  rw [List.append_nil, Int.toNat_natCast]
theorem join_three (F : Nat) (a b c : List Int) (hF : 3 < F) (h : a.length + b.length + c.length ≤ 140737488355328) : octets_Join F [a, b, c] = some (a ++ b ++ c) := by
  unfold octets_Join
  obtain ⟨F', rfl⟩ : ∃ F', F = F' + 1 + 1 + 1 + 1 := ⟨F - 4, by omega⟩
  have h1 : octets_Join_l1 (F' + 1 + 1 + 1 + 1) [a, b, c] [] 0 = some (.next (a, 1)) := by simpa using join_step (F' + 1 + 1 + 1 + 1) [a, b, c] [] 0 a rfl (by simp; omega) (by simp)
  have h2 : octets_Join_l1 (F' + 1 + 1 + 1 + 1) [a, b, c] a 1 = some (.next (a ++ b, 2)) := by simpa using join_step (F' + 1 + 1 + 1 + 1) [a, b, c] a 1 b rfl (by omega) (by simp)
  have h3 : octets_Join_l1 (F' + 1 + 1 + 1 + 1) [a, b, c] (a ++ b) 2 = some (.next (a ++ b ++ c, 3)) := join_step (F' + 1 + 1 + 1 + 1) [a, b, c] (a ++ b) 2 c rfl (by simp; omega) (by simp)
  rw [iter_step h1, iter_step h2, iter_step h3, iter_stop (o := a ++ b ++ c) (by unfold octets_Join_l1; rw [if_neg (by simp [len])])]
  rfl
/-- Bytes with their checksum and a 0. -/
def sealB (b : List Int) : List Int := b ++ leb 3 (crcs 0 b : Nat) ++ [0]
theorem seal_len (b : List Int) : (sealB b).length = b.length + 4 := by simp [sealB, leb_length]
theorem leb3 (c : Nat) (hc : c < 16777216) : [wu8 (c : Int), wu8 (shrp (c : Int) 8), wu8 (shrp (c : Int) 16)] = leb 3 (c : Int) := by
  unfold shrp
  rw [Int.fdiv_eq_ediv_of_nonneg _ (by decide), Int.fdiv_eq_ediv_of_nonneg _ (by decide)]
  simp only [leb, wu8]
  rw [show (c : Int) / 256 / 256 = (c : Int) / 2 ^ 16 from by omega, show (c : Int) / 2 ^ 8 = (c : Int) / 256 from by omega]
theorem sealed_eq (F : Nat) (b : List Int) (hb : ∀ x ∈ b, Byte x) (hl : b.length + 20 < F) (hF : F ≤ FF) (hl2 : b.length ≤ 100000) : flash_sealed F b = some (sealB b) := by
  unfold flash_sealed crc_Append slices_Clone_byte_byte
  have hc := crcs_lt (r := 0) (by decide) b
  rw [crc_sum_eq F b hb (by omega) hF, Option.bind_some, app_cat (by simp; omega), Option.bind_some, Option.bind_some, List.nil_append, leb3 _ hc, app_cat (by simp [leb_length]; omega), Option.bind_some, Option.bind_some, join_two F _ _ (by omega) (by simp [leb_length]; omega)]
  rfl
def headB (n : Int) : List Int := sealB ([66, 75] ++ leb 4 n)
def recB (k : Int) (v : List Int) : List Int := sealB (leb 2 v.length ++ leb 2 k ++ v)
theorem recB_len (k : Int) (v : List Int) : (recB k v).length = v.length + 8 := by simp [recB, seal_len, leb_length]; omega
theorem headB_len (n : Int) : (headB n).length = 10 := by simp [headB, seal_len, leb_length]
theorem byte_app {l m : List Int} (h1 : ∀ x ∈ l, Byte x) (h2 : ∀ x ∈ m, Byte x) : ∀ x ∈ l ++ m, Byte x := fun x hx => by
  rcases List.mem_append.1 hx with h | h
  · exact h1 x h
  · exact h2 x h
theorem seal_byte {b : List Int} (hb : ∀ x ∈ b, Byte x) : ∀ x ∈ sealB b, Byte x := byte_app (byte_app hb (leb_byte _ _)) (fun x hx => by rw [List.mem_singleton] at hx; subst hx; exact ⟨by decide, by decide⟩)
theorem head_in (n : Int) : ∀ x ∈ [66, 75] ++ leb 4 n, Byte x := byte_app (fun x hx => by
  have : x = 66 ∨ x = 75 := by simpa using hx
  unfold Byte
  omega) (leb_byte _ _)
theorem rec_in (k : Int) {v : List Int} (hv : ∀ x ∈ v, Byte x) : ∀ x ∈ leb 2 v.length ++ leb 2 k ++ v, Byte x := byte_app (byte_app (leb_byte _ _) (leb_byte _ _)) hv
theorem header_eq (F : Nat) (n : Int) (h0 : 0 ≤ n) (h1 : n < 4294967296) (h : 100 < F) (hF : F ≤ FF) : flash_header F n = some (headB n) := by
  unfold flash_header
  rw [wu64_id (by omega) (by omega)]
  have := number_eq F 4 n (by decide) h0 (by simpa using h1) (by omega) (by omega)
  rw [show ((4 : Nat) : Int) = 4 from rfl] at this
  rw [this, Option.bind_some, join_two F _ _ (by omega) (by simp [leb_length]), Option.bind_some, sealed_eq F _ (head_in n) (by simp [leb_length]; omega) hF (by simp [leb_length]), Option.bind_some]
  rfl
theorem record_eq (F : Nat) (k : Int) (v : List Int) (h0 : 0 ≤ k) (h1 : k < 65536) (hv : ∀ x ∈ v, Byte x) (hl : v.length ≤ 10000) (h : 20000 < F) (hF : F ≤ FF) : flash_record F k v = some (recB k v) := by
  unfold flash_record
  rw [wu64_id (x := k) (by omega) (by omega), len_nat, wu64_id (by omega) (by omega)]
  have e1 := number_eq F 2 (v.length : Int) (by decide) (by omega) (by show (v.length : Int) < 65536; omega) (by omega) (by omega)
  have e2 := number_eq F 2 k (by decide) h0 (by simpa using h1) (by omega) (by omega)
  rw [show ((2 : Nat) : Int) = 2 from rfl] at e1 e2
  rw [e1, Option.bind_some, e2, Option.bind_some, join_three F _ _ _ (by omega) (by simp [leb_length]; omega), Option.bind_some, sealed_eq F _ (rec_in k hv) (by simp [leb_length]; omega) hF (by simp [leb_length]; omega), Option.bind_some]
  rfl
theorem rheader_eq (F : Nat) (n : Int) (h0 : 0 ≤ n) (h1 : n < 4294967296) (h : 100 < F) (hF : F ≤ FF) : wirelessref39_Header F n = some (headB n) := by
  unfold wirelessref39_Header
  have hc := crcs_lt (r := 0) (by decide) ([66, 75] ++ leb 4 n)
  rw [wu64_id (by omega) (by omega)]
  have e1 := rnum_ok F 4 n (by omega) (by omega) ⟨by omega, by omega⟩
  have e2 := rnum_ok F 3 ((crcs 0 ([66, 75] ++ leb 4 n) : Nat) : Int) (by omega) (by omega) ⟨by omega, by omega⟩
  rw [show ((4 : Nat) : Int) = 4 from rfl] at e1
  rw [show ((3 : Nat) : Int) = 3 from rfl] at e2
  rw [e1, Option.bind_some, app_cat (by simp [leb_length]), Option.bind_some, ref_sum_eq F _ (head_in n) (by simp [leb_length]; omega) hF, Option.bind_some, wu64_id (by omega) (by omega), e2, Option.bind_some, app_cat (by simp [leb_length]), Option.bind_some, app_cat (by simp [leb_length]), Option.bind_some]
  rfl
theorem rrecord_eq (F : Nat) (k : Int) (v : List Int) (h0 : 0 ≤ k) (h1 : k < 65536) (hv : ∀ x ∈ v, Byte x) (hl : v.length ≤ 10000) (h : 20000 < F) (hF : F ≤ FF) : wirelessref39_Record F k v = some (recB k v) := by
  unfold wirelessref39_Record
  have hc := crcs_lt (r := 0) (by decide) (leb 2 v.length ++ leb 2 k ++ v)
  rw [wu64_id (x := k) (by omega) (by omega), len_nat, wu64_id (by omega) (by omega)]
  have e1 := rnum_ok F 2 (v.length : Int) (by omega) (by omega) ⟨by omega, by omega⟩
  have e2 := rnum_ok F 2 k (by omega) (by omega) ⟨by omega, by omega⟩
  have e3 := rnum_ok F 3 ((crcs 0 (leb 2 v.length ++ leb 2 k ++ v) : Nat) : Int) (by omega) (by omega) ⟨by omega, by omega⟩
  rw [show ((2 : Nat) : Int) = 2 from rfl] at e1 e2
  rw [show ((3 : Nat) : Int) = 3 from rfl] at e3
  rw [e1, Option.bind_some, e2, Option.bind_some, app_cat (by simp [leb_length]), Option.bind_some, app_cat (by simp [leb_length]; omega), Option.bind_some, ref_sum_eq F _ (rec_in k hv) (by simp [leb_length]; omega) hF, Option.bind_some, wu64_id (by omega) (by omega), e3, Option.bind_some, app_cat (by simp [leb_length]; omega), Option.bind_some, app_cat (by simp [leb_length]; omega), Option.bind_some]
  rfl
theorem zip_any : ∀ (l m : List Int), l.length = m.length → (l.zip m).any (fun q => q.1 != q.2) = !decide (l = m)
  | [], [], _ => rfl
  | x :: l, y :: m, h => by
    have ih := zip_any l m (by simpa using h)
    rw [List.zip_cons_cons, List.any_cons, ih]
    by_cases h1 : x = y
    · subst h1; simp
    · simp [h1]
theorem equal_eq (F : Nat) (l m : List Int) (hl : l.length ≤ 100000) (hF : 200000 < F) : slices_Equal_byte_byte F l m = some (decide (l = m)) := by
  unfold slices_Equal_byte_byte
  rw [len_nat, len_nat]
  by_cases h : l.length = m.length
  · rw [if_neg (by simp; omega)]
    have := iter_any (body := fun s : Int => slices_Equal_byte_byte_l1 F l m s) (l := l.zip m) (p := fun q => q.1 != q.2) (o := .inr false) (e := .inl ()) (by
      rintro i ⟨x, y⟩ hxy
      rw [List.getElem?_zip_eq_some] at hxy
      obtain ⟨hx, hy⟩ := hxy
      simp only at hx hy
      have hi : i < l.length := (List.getElem?_eq_some_iff.1 hx).1
      show slices_Equal_byte_byte_l1 F l m (i : Int) = _
      unfold slices_Equal_byte_byte_l1 slices_Equal_byte_byte_j2
      rw [if_pos (dt (by rw [len_nat]; omega)), idx_nat, idx_nat, hx, Option.bind_some, hy, Option.bind_some, w64_nat i (by omega)]
      by_cases hq : (x != y) = true
      · rw [if_pos hq, if_pos hq]
      · rw [if_neg hq, if_neg hq]) (by
      show slices_Equal_byte_byte_l1 F l m _ = _
      unfold slices_Equal_byte_byte_l1
      rw [if_neg (df (by rw [len_nat]; simp; omega))]) F 0 (by omega) (by simp; omega)
    rw [show ((0 : Nat) : Int) = 0 from rfl] at this
    rw [this, Option.bind_some, List.drop_zero, zip_any l m h]
    by_cases hq : l = m
    · subst hq
      simp [slices_Equal_byte_byte_j1]
    · simp [hq]
  · rw [if_pos (by simp; omega)]
    have : l ≠ m := fun e => h (by rw [e])
    simp [this]
end V
end Go.Proofs.YtojcklkcjnnkaaaDoor
