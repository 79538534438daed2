/-
  Numbers and bytes.
-/
import Derived.Test.YtbdhonofhlpdoaaDoorLoop
import Derived.Test.YtbdhonofhlpdoaaDoorFn
import Derived.KernelRfl
namespace Go.Proofs.YtbdhonofhlpdoaaDoor
namespace V
theorem dt {p : Prop} [Decidable p] (h : p) : decide p = true := decide_eq_true h
theorem df {p : Prop} [Decidable p] (h : ¬ p) : ¬ decide p = true := by simpa using h
def FF : Nat := 1125899906842624
def Byte (x : Int) : Prop := 0 ≤ x ∧ x < 256
/-- The bytes of a number, low ones first; the number of bytes. -/
def leb : Nat → Int → List Int
  | 0, _ => []
  | k + 1, n => n % 256 :: leb k (n / 256)
def num : List Int → Int
  | [] => 0
  | b :: r => b + 256 * num r
theorem leb_length : ∀ k n, (leb k n).length = k
  | 0, _ => rfl
  | k + 1, n => by simp [leb, leb_length k]
theorem leb_byte : ∀ k n, ∀ x ∈ leb k n, Byte x
  | 0, _, x, h => by cases h
  | k + 1, n, x, h => by
    rcases List.mem_cons.1 h with rfl | h
    · exact ⟨Int.emod_nonneg _ (by decide), Int.emod_lt_of_pos _ (by decide)⟩
    · exact leb_byte k _ x h
theorem pow_succ256 (k : Nat) : (256 : Int) ^ (k + 1) = 256 * 256 ^ k := by rw [Int.pow_succ, Int.mul_comm]
theorem pow_pos256 (k : Nat) : (0 : Int) < 256 ^ k := Int.pow_pos (by decide)
theorem leb_snoc : ∀ (k : Nat) (n : Int), leb (k + 1) n = leb k n ++ [n / 256 ^ k % 256]
  | 0, n => by simp [leb]
  | k + 1, n => by
    have := leb_snoc k (n / 256)
    rw [leb, this, leb, List.cons_append, pow_succ256, Int.ediv_ediv_of_nonneg (by decide : (0 : Int) ≤ 256)]
theorem num_leb : ∀ (k : Nat) (n : Int), num (leb k n) = n % 256 ^ k
  | 0, n => by simp [leb, num, Int.emod_one]
  | k + 1, n => by
    rw [leb, num, num_leb k, pow_succ256, ← Int.emod_add_mul_ediv (n % (256 * 256 ^ k)) 256]
    have h1 : n % (256 * 256 ^ k) % 256 = n % 256 := Int.emod_emod_of_dvd _ (Int.dvd_mul_right ..)
    have h2 : n % (256 * 256 ^ k) / 256 = n / 256 % 256 ^ k := by
      have := pow_pos256 k
      rw [Int.emod_def, Int.emod_def (n / 256), ← Int.ediv_ediv_of_nonneg (by decide : (0 : Int) ≤ 256), Int.mul_assoc, Int.sub_mul_ediv_left _ _ (by decide)]
    rw [h1, h2]
theorem num_nonneg : ∀ {l : List Int}, (∀ x ∈ l, Byte x) → 0 ≤ num l
  | [], _ => by simp [num]
  | b :: r, h => by
    have h1 := (h b (by simp)).1
    have h2 := num_nonneg (l := r) fun x hx => h x (by simp [hx])
    simp only [num]; omega
theorem num_lt : ∀ {l : List Int}, (∀ x ∈ l, Byte x) → num l < 256 ^ l.length
  | [], _ => by simp [num]
  | b :: r, h => by
    have h1 := (h b (by simp)).2
    have h2 := num_lt (l := r) fun x hx => h x (by simp [hx])
    simp only [num, List.length_cons, pow_succ256]; omega
theorem leb_num : ∀ {l : List Int}, (∀ x ∈ l, Byte x) → leb l.length (num l) = l
  | [], _ => rfl
  | b :: r, h => by
    obtain ⟨h0, h1⟩ := h b (by simp)
    have hr := leb_num (l := r) fun x hx => h x (by simp [hx])
    simp only [List.length_cons, leb, num]
    rw [show (b + 256 * num r) % 256 = b from by omega, show (b + 256 * num r) / 256 = num r from by omega, hr]
theorem num_append : ∀ (l m : List Int), num (l ++ m) = num l + 256 ^ l.length * num m
  | [], m => by simp [num]
  | b :: r, m => by
    simp only [List.cons_append, num, List.length_cons, pow_succ256, num_append r m, Int.mul_add, Int.mul_assoc]
    omega

theorem tmod256 {n : Int} (h : 0 ≤ n) : n.tmod 256 = n % 256 := Int.tmod_eq_emod_of_nonneg h
theorem tdiv256 {n : Int} (h : 0 ≤ n) : n.tdiv 256 = n / 256 := Int.tdiv_eq_ediv_of_nonneg h
theorem app_cat {l m : List Int} (h : l.length + m.length ≤ 140737488355328) : app 1 l m = some (l ++ m) := by
  rw [app_small (by omega) (by omega)]
theorem str_bytes : ∀ {l : List Int}, (∀ x ∈ l, Byte x) → str l = l
  | [], _ => rfl
  | b :: r, h => by
    obtain ⟨h0, h1⟩ := h b (by simp)
    have hr := str_bytes (l := r) fun x hx => h x (by simp [hx])
    unfold str at hr ⊢
    rw [List.map_cons, hr]
    congr 1
    have : (UInt8.ofNat b.toNat).toNat = b.toNat := by
      simp
      omega
    rw [this]
    omega
theorem join_step (F : Nat) (ps : List (List Int)) (l : List Int) (i : Nat) (x : List Int) (hx : ps[i]? = some x) (hl : l.length + x.length ≤ 140737488355328) (hi : ps.length ≤ 9000000000000000000) : octets_Join_l1 F ps l i = some (.next (l ++ x, ((i + 1 : Nat) : Int))) := by
  have hlt : i < ps.length := (List.getElem?_eq_some_iff.1 hx).1
  unfold octets_Join_l1
  have hd : decide ((i : Int) < len ps) = true := by simp [len]; omega
  rw [if_pos hd, idx_nat, hx]
  simp only [Option.bind_some]
  rw [app_cat hl]
  simp only [Option.bind_some]
  rw [w64_nat i (by omega)]
theorem join_two (F : Nat) (a b : List Int) (hF : 2 < F) (h : a.length + b.length ≤ 140737488355328) : octets_Join F [a, b] = some (a ++ b) := by
  unfold octets_Join
  obtain ⟨F', rfl⟩ : ∃ F', F = F' + 1 + 1 + 1 := ⟨F - 3, by omega⟩
  have h1 : octets_Join_l1 (F' + 1 + 1 + 1) [a, b] [] 0 = some (.next (a, 1)) := by simpa using join_step (F' + 1 + 1 + 1) [a, b] [] 0 a rfl (by simp; omega) (by simp)
  have h2 : octets_Join_l1 (F' + 1 + 1 + 1) [a, b] a 1 = some (.next (a ++ b, 2)) := by simpa using join_step (F' + 1 + 1 + 1) [a, b] a 1 b rfl (by omega) (by simp)
  rw [iter_step h1, iter_step h2, iter_stop (o := a ++ b) (by unfold octets_Join_l1; rw [if_neg (by simp [len])])]
  rfl
theorem join_one (F : Nat) (a : List Int) (hF : 1 < F) (h : a.length ≤ 140737488355328) : octets_Join F [a] = some a := by
  unfold octets_Join
  obtain ⟨F', rfl⟩ : ∃ F', F = F' + 1 + 1 := ⟨F - 2, by omega⟩
  have h1 : octets_Join_l1 (F' + 1 + 1) [a] [] 0 = some (.next (a, 1)) := by simpa using join_step (F' + 1 + 1) [a] [] 0 a rfl (by simp; omega) (by simp)
  rw [iter_step h1, iter_stop (o := a) (by unfold octets_Join_l1; rw [if_neg (by simp [len])])]
  rfl

theorem nat_or_add (a b i : Nat) (ha : a < 2 ^ i) : a ||| (b * 2 ^ i) = a + b * 2 ^ i := by
  have h := Nat.shiftLeft_add_eq_or_of_lt ha b
  rw [Nat.shiftLeft_eq] at h
  rw [Nat.or_comm, ← h, Nat.add_comm]
theorem pow256 (i : Nat) : (256 : Int) ^ i = ((2 ^ (8 * i) : Nat) : Int) := by
  rw [Nat.pow_mul, show (2 : Nat) ^ 8 = 256 from by decide]
  exact (congrArg (fun z : Int => z ^ i) (rfl : (256 : Int) = ((256 : Nat) : Int))).trans (Int.natCast_pow 256 i).symm
theorem ior_add (a b : Int) (i : Nat) (hi : i < 8) (h0 : 0 ≤ a) (h1 : a < 256 ^ i) (h2 : Byte b) : ior .u64 a (b * 256 ^ i) = a + b * 256 ^ i := by
  obtain ⟨b0, b1⟩ := h2
  obtain ⟨a, rfl⟩ := Int.eq_ofNat_of_zero_le h0
  obtain ⟨b, rfl⟩ := Int.eq_ofNat_of_zero_le b0
  have hp := pow256 i
  rw [hp] at h1 ⊢
  have ha : a < 2 ^ (8 * i) := by exact_mod_cast h1
  have hb : b < 256 := by omega
  have hle : (2 : Nat) ^ (8 * i) ≤ 2 ^ 56 := Nat.pow_le_pow_right (by decide) (by omega)
  have hbl : b * 2 ^ (8 * i) < 2 ^ 64 := by
    have : b * 2 ^ (8 * i) ≤ 255 * 2 ^ 56 := Nat.mul_le_mul (by omega) hle
    omega
  have hs : a + b * 2 ^ (8 * i) < 2 ^ 64 := by
    have : (b + 1) * 2 ^ (8 * i) ≤ 256 * 2 ^ 56 := Nat.mul_le_mul (by omega) hle
    rw [Nat.add_mul] at this
    omega
  unfold ior
  have e : ((b : Int) * ((2 ^ (8 * i) : Nat) : Int)) = ((b * 2 ^ (8 * i) : Nat) : Int) := by rw [Int.natCast_mul]
  have e2 : (BitVec.ofInt IntKind.u64.bits (a : Int) ||| BitVec.ofInt IntKind.u64.bits ((b : Int) * ((2 ^ (8 * i) : Nat) : Int))).toNat = a + b * 2 ^ (8 * i) := by
    rw [e, BitVec.toNat_or]
    show (BitVec.ofInt 64 (a : Int)).toNat ||| (BitVec.ofInt 64 ((b * 2 ^ (8 * i) : Nat) : Int)).toNat = _
    rw [BitVec.toNat_ofInt, BitVec.toNat_ofInt]
    rw [show (((a : Nat) : Int) % ((2 ^ 64 : Nat) : Int)).toNat = a from by rw [← Int.natCast_emod, Int.toNat_natCast, Nat.mod_eq_of_lt (by omega)]]
    rw [show (((b * 2 ^ (8 * i) : Nat) : Int) % ((2 ^ 64 : Nat) : Int)).toNat = b * 2 ^ (8 * i) from by rw [← Int.natCast_emod, Int.toNat_natCast, Nat.mod_eq_of_lt hbl]]
    exact nat_or_add a b (8 * i) ha
  rw [e2, wrap_u64]
  unfold wu64
  rw [Int.natCast_add, Int.natCast_mul]
  rw [show ((a : Int) + (b : Int) * ((2 ^ (8 * i) : Nat) : Int)) = ((a + b * 2 ^ (8 * i) : Nat) : Int) from by rw [Int.natCast_add, Int.natCast_mul]]
  omega
theorem pow2_nat (i : Nat) : (2 : Int) ^ (8 * i) = ((2 ^ (8 * i) : Nat) : Int) := (congrArg (fun z : Int => z ^ (8 * i)) (rfl : (2 : Int) = ((2 : Nat) : Int))).trans (Int.natCast_pow 2 (8 * i)).symm
theorem shl_le (x i : Nat) (h1 : (x : Int) < 256) (hi : i < 8) : x * 2 ^ (8 * i) ≤ 255 * 2 ^ 56 := by
  have hle : (2 : Nat) ^ (8 * i) ≤ 2 ^ 56 := Nat.pow_le_pow_right (by decide) (by omega)
  exact Nat.mul_le_mul (by omega) hle
theorem wu64_le (q : Nat) (hb : q ≤ 255 * 2 ^ 56) : wu64 (q : Int) = q := by
  rw [wu64_id (by omega) (by omega)]
theorem shl_core (x i : Nat) (hi : i < 8) : ishl .u64 (x : Int) (8 * i) = some (IntKind.u64.wrap ((x : Int) * 2 ^ (8 * i))) := by
  unfold ishl
  rw [if_neg (by omega)]
  have e1 : min (8 * (i : Int)).toNat IntKind.u64.bits = 8 * i := by
    show min (8 * (i : Int)).toNat 64 = 8 * i
    omega
  rw [e1]
theorem shl_bytes {x : Int} (hx : Byte x) (i : Nat) (hi : i < 8) : ishl .u64 (wu64 x) (w64 (8 * i)) = some (x * 256 ^ i) := by
  obtain ⟨h0, h1⟩ := hx
  obtain ⟨x, rfl⟩ := Int.eq_ofNat_of_zero_le h0
  have e1 : w64 (8 * (i : Int)) = 8 * i := w64_id (by omega) (by omega)
  have e2 : wu64 (x : Int) = x := wu64_id (by omega) (by omega)
  have e3 := wu64_le _ (shl_le x i h1 hi)
  rw [Int.natCast_mul, ← pow2_nat] at e3
  have e4 : (256 : Int) ^ i = 2 ^ (8 * i) := (pow256 i).trans (pow2_nat i).symm
  rw [e1, e2, shl_core x i hi, wrap_u64, e3, e4]
end V
end Go.Proofs.YtbdhonofhlpdoaaDoor
