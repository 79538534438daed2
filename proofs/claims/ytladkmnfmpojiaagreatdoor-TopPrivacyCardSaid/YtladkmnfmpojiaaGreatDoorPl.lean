/-
  The plain law: what the twins compute answers as the statement says.
-/
import Derived.Test.YtladkmnfmpojiaaGreatDoorLa
import Derived.Test.YtladkmnfmpojiaaGreatDoorFn
import Derived.KernelRfl
namespace Go.Proofs.YtladkmnfmpojiaaGreatDoor
namespace V

theorem idx_nat {α : Type} (l : List α) (i : Nat) : idx l (i : Int) = l[i]? := by simp [idx]
theorem idx_lt {α : Type} {l : List α} {i : Int} (h0 : 0 ≤ i) (h1 : i < l.length) : ∃ x, idx l i = some x ∧ l[i.toNat]? = some x := by
  have : i.toNat < l.length := by omega
  exact ⟨l[i.toNat], by simp [idx, h0, List.getElem?_eq_getElem this], by simp [List.getElem?_eq_getElem this]⟩
theorem w64_nat (i : Nat) (h : i < 9223372036854775807) : w64 ((i : Int) + 1) = ((i + 1 : Nat) : Int) := by rw [w64_id] <;> omega
theorem len_nonneg {α : Type} (l : List α) : 0 ≤ len l := by simp [len]
theorem len_nat {α : Type} (l : List α) : len l = (l.length : Int) := rfl
theorem sub_nat {α : Type} (l : List α) (i j : Nat) (h1 : i ≤ j) (h2 : j ≤ l.length) : sub l (i : Int) (j : Int) = some ((l.take j).drop i) := by
  unfold sub
  rw [if_pos (by omega)]
  simp
theorem app_small {α : Type} {b : Nat} {l m : List α} (h : (l.length + m.length) * b ≤ 140737488355328) (hb : 0 < b) : app b l m = some (l ++ m) := by
  unfold app
  have : (l.length + m.length) * 1 ≤ (l.length + m.length) * b := Nat.mul_le_mul_left _ hb
  rw [if_pos (by omega)]
theorem mk_small {α : Type} {b : Nat} {z : α} {n : Nat} (h : n * b ≤ 140737488355328) (hb : 0 < b) : mk b z (n : Int) = some (List.replicate n z) := by
  unfold mk
  have h1 : n * 1 ≤ n * b := Nat.mul_le_mul_left _ hb
  have h2 : (n : Int) * (b : Int) ≤ 140737488355328 := by rw [← Int.natCast_mul]; omega
  rw [if_pos (by omega)]
  simp

section
variable {S O : Type}
theorem iter_step {body : S → Option (Out S O)} {n : Nat} {s s' : S} (h : body s = some (.next s')) : iter body (n + 1) s = iter body n s' := by simp [iter, h]
theorem iter_stop {body : S → Option (Out S O)} {n : Nat} {s : S} {o : O} (h : body s = some (.done o)) : iter body (n + 1) s = some o := by simp [iter, h]
/-- A loop, by an invariant and a measure. -/
theorem iter_by {body : S → Option (Out S O)} (I : S → Prop) (Q : O → Prop) (m : S → Nat) (h : ∀ s, I s → (∃ s', body s = some (.next s') ∧ I s' ∧ m s' < m s) ∨ ∃ o, body s = some (.done o) ∧ Q o) :
    ∀ (F : Nat) (s : S), I s → m s < F → ∃ o, iter body F s = some o ∧ Q o
  | 0, s, _, hF => by omega
  | F + 1, s, hI, hF => by
    rcases h s hI with ⟨s', hb, hI', hm⟩ | ⟨o, hb, hq⟩
    · obtain ⟨o, h1, h2⟩ := iter_by I Q m h F s' hI' (by omega)
      exact ⟨o, by rw [iter_step hb, h1], h2⟩
    · exact ⟨o, iter_stop hb, hq⟩
/-- A loop over the numbers below n: the state follows g, round by round, and nothing is left on the way. -/
theorem iter_count {body : S → Option (Out S O)} (st : Nat → S) (n : Nat) (o : O) (h : ∀ i, i < n → body (st i) = some (.next (st (i + 1)))) (hd : body (st n) = some (.done o)) :
    ∀ (F i : Nat), i ≤ n → n - i < F → iter body F (st i) = some o
  | 0, i, _, hF => by omega
  | F + 1, i, hi, hF => by
    by_cases hin : i < n
    · rw [iter_step (h i hin)]
      exact iter_count st n o h hd F (i + 1) hin (by omega)
    · have : i = n := by omega
      subst this
      exact iter_stop hd
/-- A loop that is left at the first element with p. -/
theorem iter_any {α : Type} {body : Int → Option (Out Int O)} {l : List α} {p : α → Bool} {o e : O} (h : ∀ (i : Nat) x, l[i]? = some x → body (i : Int) = some (if p x = true then .done o else .next ((i + 1 : Nat) : Int))) (he : body (l.length : Int) = some (.done e)) :
    ∀ (F i : Nat), i ≤ l.length → l.length - i < F → iter body F (i : Int) = some (if (l.drop i).any p = true then o else e)
  | 0, i, _, hF => by omega
  | F + 1, i, hi, hF => by
    by_cases hin : i < l.length
    · have hx : l[i]? = some l[i] := List.getElem?_eq_getElem hin
      have hdr : l.drop i = l[i] :: l.drop (i + 1) := List.drop_eq_getElem_cons hin
      have hb := h i _ hx
      by_cases hp : p l[i] = true
      · rw [if_pos hp] at hb
        rw [iter_stop hb, hdr, List.any_cons, hp]
        rfl
      · rw [if_neg hp] at hb
        rw [iter_step hb, iter_any h he F (i + 1) hin (by omega), hdr, List.any_cons, (Bool.not_eq_true _).mp hp]
        rfl
    · have : i = l.length := by omega
      subst this
      rw [iter_stop he, List.drop_length, List.any_nil]
      rfl
end
end V
end Go.Proofs.YtladkmnfmpojiaaGreatDoor
namespace Go.Proofs.YtladkmnfmpojiaaGreatDoor
namespace V
theorem dt {p : Prop} [Decidable p] (h : p) : decide p = true := decide_eq_true h
theorem df {p : Prop} [Decidable p] (h : ¬ p) : ¬ decide p = true := by simpa using h
def FF : Nat := 1125899906842624
def Byte (x : Int) : Prop := 0 ≤ x ∧ x < 256
/-- The bytes of a number, low ones first; the number of bytes. -/
def leb : Nat → Int → List Int
  | 0, _ => []
  | k + 1, n => n % 256 :: leb k (n / 256)
def num : List Int → Int
  | [] => 0
  | b :: r => b + 256 * num r
theorem leb_length : ∀ k n, (leb k n).length = k
  | 0, _ => rfl
  | k + 1, n => by simp [leb, leb_length k]
theorem leb_byte : ∀ k n, ∀ x ∈ leb k n, Byte x
  | 0, _, x, h => by cases h
  | k + 1, n, x, h => by
    rcases List.mem_cons.1 h with rfl | h
    · exact ⟨Int.emod_nonneg _ (by decide), Int.emod_lt_of_pos _ (by decide)⟩
    · exact leb_byte k _ x h
theorem pow_succ256 (k : Nat) : (256 : Int) ^ (k + 1) = 256 * 256 ^ k := by rw [Int.pow_succ, Int.mul_comm]
theorem pow_pos256 (k : Nat) : (0 : Int) < 256 ^ k := Int.pow_pos (by decide)
theorem leb_snoc : ∀ (k : Nat) (n : Int), leb (k + 1) n = leb k n ++ [n / 256 ^ k % 256]
  | 0, n => by simp [leb]
  | k + 1, n => by
    have := leb_snoc k (n / 256)
    rw [leb, this, leb, List.cons_append, pow_succ256, Int.ediv_ediv_of_nonneg (by decide : (0 : Int) ≤ 256)]
theorem num_leb : ∀ (k : Nat) (n : Int), num (leb k n) = n % 256 ^ k
  | 0, n => by simp [leb, num, Int.emod_one]
  | k + 1, n => by
    rw [leb, num, num_leb k, pow_succ256, ← Int.emod_add_mul_ediv (n % (256 * 256 ^ k)) 256]
    have h1 : n % (256 * 256 ^ k) % 256 = n % 256 := Int.emod_emod_of_dvd _ (Int.dvd_mul_right ..)
    have h2 : n % (256 * 256 ^ k) / 256 = n / 256 % 256 ^ k := by
      have := pow_pos256 k
      rw [Int.emod_def, Int.emod_def (n / 256), ← Int.ediv_ediv_of_nonneg (by decide : (0 : Int) ≤ 256), Int.mul_assoc, Int.sub_mul_ediv_left _ _ (by decide)]
    rw [h1, h2]
theorem num_nonneg : ∀ {l : List Int}, (∀ x ∈ l, Byte x) → 0 ≤ num l
  | [], _ => by simp [num]
  | b :: r, h => by
    have h1 := (h b (by simp)).1
    have h2 := num_nonneg (l := r) fun x hx => h x (by simp [hx])
    simp only [num]; omega
theorem num_lt : ∀ {l : List Int}, (∀ x ∈ l, Byte x) → num l < 256 ^ l.length
  | [], _ => by simp [num]
  | b :: r, h => by
    have h1 := (h b (by simp)).2
    have h2 := num_lt (l := r) fun x hx => h x (by simp [hx])
    simp only [num, List.length_cons, pow_succ256]; omega
theorem leb_num : ∀ {l : List Int}, (∀ x ∈ l, Byte x) → leb l.length (num l) = l
  | [], _ => rfl
  | b :: r, h => by
    obtain ⟨h0, h1⟩ := h b (by simp)
    have hr := leb_num (l := r) fun x hx => h x (by simp [hx])
    simp only [List.length_cons, leb, num]
    rw [show (b + 256 * num r) % 256 = b from by omega, show (b + 256 * num r) / 256 = num r from by omega, hr]
theorem num_append : ∀ (l m : List Int), num (l ++ m) = num l + 256 ^ l.length * num m
  | [], m => by simp [num]
  | b :: r, m => by
    simp only [List.cons_append, num, List.length_cons, pow_succ256, num_append r m, Int.mul_add, Int.mul_assoc]
    omega

theorem tmod256 {n : Int} (h : 0 ≤ n) : n.tmod 256 = n % 256 := Int.tmod_eq_emod_of_nonneg h
theorem tdiv256 {n : Int} (h : 0 ≤ n) : n.tdiv 256 = n / 256 := Int.tdiv_eq_ediv_of_nonneg h
theorem app_cat {l m : List Int} (h : l.length + m.length ≤ 140737488355328) : app 1 l m = some (l ++ m) := by
  rw [app_small (by omega) (by omega)]
theorem str_bytes : ∀ {l : List Int}, (∀ x ∈ l, Byte x) → str l = l
  | [], _ => rfl
  | b :: r, h => by
    obtain ⟨h0, h1⟩ := h b (by simp)
    have hr := str_bytes (l := r) fun x hx => h x (by simp [hx])
    unfold str at hr ⊢
    rw [List.map_cons, hr]
    congr 1
    have : (UInt8.ofNat b.toNat).toNat = b.toNat := by
      simp
      omega
    rw [this]
    omega
theorem join_step (F : Nat) (ps : List (List Int)) (l : List Int) (i : Nat) (x : List Int) (hx : ps[i]? = some x) (hl : l.length + x.length ≤ 140737488355328) (hi : ps.length ≤ 9000000000000000000) : octets_Join_l1 F ps l i = some (.next (l ++ x, ((i + 1 : Nat) : Int))) := by
  have hlt : i < ps.length := (List.getElem?_eq_some_iff.1 hx).1
  unfold octets_Join_l1
  have hd : decide ((i : Int) < len ps) = true := by simp [len]; omega
  rw [if_pos hd, idx_nat, hx]
  simp only [Option.bind_some]
  rw [app_cat hl]
  simp only [Option.bind_some]
  rw [w64_nat i (by omega)]
theorem join_two (F : Nat) (a b : List Int) (hF : 2 < F) (h : a.length + b.length ≤ 140737488355328) : octets_Join F [a, b] = some (a ++ b) := by
  unfold octets_Join
  obtain ⟨F', rfl⟩ : ∃ F', F = F' + 1 + 1 + 1 := ⟨F - 3, by omega⟩
  have h1 : octets_Join_l1 (F' + 1 + 1 + 1) [a, b] [] 0 = some (.next (a, 1)) := by simpa using join_step (F' + 1 + 1 + 1) [a, b] [] 0 a rfl (by simp; omega) (by simp)
  have h2 : octets_Join_l1 (F' + 1 + 1 + 1) [a, b] a 1 = some (.next (a ++ b, 2)) := by simpa using join_step (F' + 1 + 1 + 1) [a, b] a 1 b rfl (by omega) (by simp)
  rw [iter_step h1, iter_step h2, iter_stop (o := a ++ b) (by unfold octets_Join_l1; rw [if_neg (by simp [len])])]
  rfl
theorem join_one (F : Nat) (a : List Int) (hF : 1 < F) (h : a.length ≤ 140737488355328) : octets_Join F [a] = some a := by
  unfold octets_Join
  obtain ⟨F', rfl⟩ : ∃ F', F = F' + 1 + 1 := ⟨F - 2, by omega⟩
  have h1 : octets_Join_l1 (F' + 1 + 1) [a] [] 0 = some (.next (a, 1)) := by simpa using join_step (F' + 1 + 1) [a] [] 0 a rfl (by simp; omega) (by simp)
  rw [iter_step h1, iter_stop (o := a) (by unfold octets_Join_l1; rw [if_neg (by simp [len])])]
  rfl

theorem nat_or_add (a b i : Nat) (ha : a < 2 ^ i) : a ||| (b * 2 ^ i) = a + b * 2 ^ i := by
  have h := Nat.shiftLeft_add_eq_or_of_lt ha b
  rw [Nat.shiftLeft_eq] at h
  rw [Nat.or_comm, ← h, Nat.add_comm]
theorem pow256 (i : Nat) : (256 : Int) ^ i = ((2 ^ (8 * i) : Nat) : Int) := by
  rw [Nat.pow_mul, show (2 : Nat) ^ 8 = 256 from by decide]
  exact (congrArg (fun z : Int => z ^ i) (rfl : (256 : Int) = ((256 : Nat) : Int))).trans (Int.natCast_pow 256 i).symm
theorem ior_add (a b : Int) (i : Nat) (hi : i < 8) (h0 : 0 ≤ a) (h1 : a < 256 ^ i) (h2 : Byte b) : ior .u64 a (b * 256 ^ i) = a + b * 256 ^ i := by
  obtain ⟨b0, b1⟩ := h2
  obtain ⟨a, rfl⟩ := Int.eq_ofNat_of_zero_le h0
  obtain ⟨b, rfl⟩ := Int.eq_ofNat_of_zero_le b0
  have hp := pow256 i
  rw [hp] at h1 ⊢
  have ha : a < 2 ^ (8 * i) := by exact_mod_cast h1
  have hb : b < 256 := by omega
  have hle : (2 : Nat) ^ (8 * i) ≤ 2 ^ 56 := Nat.pow_le_pow_right (by decide) (by omega)
  have hbl : b * 2 ^ (8 * i) < 2 ^ 64 := by
    have : b * 2 ^ (8 * i) ≤ 255 * 2 ^ 56 := Nat.mul_le_mul (by omega) hle
    omega
  have hs : a + b * 2 ^ (8 * i) < 2 ^ 64 := by
    have : (b + 1) * 2 ^ (8 * i) ≤ 256 * 2 ^ 56 := Nat.mul_le_mul (by omega) hle
    rw [Nat.add_mul] at this
    omega
  unfold ior
  have e : ((b : Int) * ((2 ^ (8 * i) : Nat) : Int)) = ((b * 2 ^ (8 * i) : Nat) : Int) := by rw [Int.natCast_mul]
  have e2 : (BitVec.ofInt IntKind.u64.bits (a : Int) ||| BitVec.ofInt IntKind.u64.bits ((b : Int) * ((2 ^ (8 * i) : Nat) : Int))).toNat = a + b * 2 ^ (8 * i) := by
    rw [e, BitVec.toNat_or]
    show (BitVec.ofInt 64 (a : Int)).toNat ||| (BitVec.ofInt 64 ((b * 2 ^ (8 * i) : Nat) : Int)).toNat = _
    rw [BitVec.toNat_ofInt, BitVec.toNat_ofInt]
    rw [show (((a : Nat) : Int) % ((2 ^ 64 : Nat) : Int)).toNat = a from by rw [← Int.natCast_emod, Int.toNat_natCast, Nat.mod_eq_of_lt (by omega)]]
    rw [show (((b * 2 ^ (8 * i) : Nat) : Int) % ((2 ^ 64 : Nat) : Int)).toNat = b * 2 ^ (8 * i) from by rw [← Int.natCast_emod, Int.toNat_natCast, Nat.mod_eq_of_lt hbl]]
    exact nat_or_add a b (8 * i) ha
  rw [e2, wrap_u64]
  unfold wu64
  rw [Int.natCast_add, Int.natCast_mul]
  rw [show ((a : Int) + (b : Int) * ((2 ^ (8 * i) : Nat) : Int)) = ((a + b * 2 ^ (8 * i) : Nat) : Int) from by rw [Int.natCast_add, Int.natCast_mul]]
  omega
theorem pow2_nat (i : Nat) : (2 : Int) ^ (8 * i) = ((2 ^ (8 * i) : Nat) : Int) := (congrArg (fun z : Int => z ^ (8 * i)) (rfl : (2 : Int) = ((2 : Nat) : Int))).trans (Int.natCast_pow 2 (8 * i)).symm
theorem shl_le (x i : Nat) (h1 : (x : Int) < 256) (hi : i < 8) : x * 2 ^ (8 * i) ≤ 255 * 2 ^ 56 := by
  have hle : (2 : Nat) ^ (8 * i) ≤ 2 ^ 56 := Nat.pow_le_pow_right (by decide) (by omega)
  exact Nat.mul_le_mul (by omega) hle
theorem wu64_le (q : Nat) (hb : q ≤ 255 * 2 ^ 56) : wu64 (q : Int) = q := by
  rw [wu64_id (by omega) (by omega)]
theorem shl_core (x i : Nat) (hi : i < 8) : ishl .u64 (x : Int) (8 * i) = some (IntKind.u64.wrap ((x : Int) * 2 ^ (8 * i))) := by
  unfold ishl
  rw [if_neg (by omega)]
  have e1 : min (8 * (i : Int)).toNat IntKind.u64.bits = 8 * i := by
    show min (8 * (i : Int)).toNat 64 = 8 * i
    omega
  rw [e1]
theorem shl_bytes {x : Int} (hx : Byte x) (i : Nat) (hi : i < 8) : ishl .u64 (wu64 x) (w64 (8 * i)) = some (x * 256 ^ i) := by
  obtain ⟨h0, h1⟩ := hx
  obtain ⟨x, rfl⟩ := Int.eq_ofNat_of_zero_le h0
  have e1 : w64 (8 * (i : Int)) = 8 * i := w64_id (by omega) (by omega)
  have e2 : wu64 (x : Int) = x := wu64_id (by omega) (by omega)
  have e3 := wu64_le _ (shl_le x i h1 hi)
  rw [Int.natCast_mul, ← pow2_nat] at e3
  have e4 : (256 : Int) ^ i = 2 ^ (8 * i) := (pow256 i).trans (pow2_nat i).symm
  rw [e1, e2, shl_core x i hi, wrap_u64, e3, e4]
end V
end Go.Proofs.YtladkmnfmpojiaaGreatDoor
namespace Go.Proofs.YtladkmnfmpojiaaGreatDoor
namespace V
theorem ofInt_nat (w a : Nat) (h : a < 2 ^ w) : (BitVec.ofInt w (a : Int)).toNat = a := by
  rw [BitVec.toNat_ofInt]
  have : ((a : Int) % ((2 ^ w : Nat) : Int)).toNat = a := by
    rw [← Int.natCast_emod, Int.toNat_natCast, Nat.mod_eq_of_lt h]
  exact this
theorem iand_mask (x : Int) (k : Nat) (m : Nat) (hm : m = 2 ^ k - 1) (hk : k ≤ 63) (h0 : 0 ≤ x) (h1 : x < 18446744073709551616) : iand .u64 x (m : Int) = x % ((m + 1 : Nat) : Int) := by
  obtain ⟨a, rfl⟩ := Int.eq_ofNat_of_zero_le h0
  have hp : (2 : Nat) ^ k ≤ 2 ^ 63 := Nat.pow_le_pow_right (by decide) hk
  have hpos : 0 < (2 : Nat) ^ k := Nat.pow_pos (by decide)
  have hm1 : m + 1 = 2 ^ k := by omega
  unfold iand
  have e : (BitVec.ofInt IntKind.u64.bits (a : Int) &&& BitVec.ofInt IntKind.u64.bits (m : Int)).toNat = a % (m + 1) := by
    rw [BitVec.toNat_and]
    show (BitVec.ofInt 64 (a : Int)).toNat &&& (BitVec.ofInt 64 (m : Int)).toNat = _
    rw [ofInt_nat 64 a (by omega), ofInt_nat 64 m (by omega), hm, Nat.and_two_pow_sub_one_eq_mod, show 2 ^ k - 1 + 1 = 2 ^ k by omega]
  have hlt : a % (m + 1) < m + 1 := Nat.mod_lt _ (by omega)
  rw [e, wrap_u64, wu64_id (by omega) (by omega)]
  omega
theorem shrp_div (x : Int) (n : Nat) : shrp x n = x / 2 ^ n := by
  unfold shrp
  exact Int.fdiv_eq_ediv_of_nonneg _ (Int.le_of_lt (Int.pow_pos (by decide)))
theorem mask22 (F : Nat) : address_mask F 22 = some 4194303 := by kernel_rfl
theorem mask46 (F : Nat) : address_mask F 46 = some 70368744177663 := by kernel_rfl
/-- What the checks of an address answer. -/
def chkA (a : T_api_Address) : Int :=
  if a.Kind ≤ 0 ∨ a.Kind ≥ 5 then 12
  else if a.Bits ≥ 281474976710656 then 5
  else if a.Kind = 1 then 0
  else if a.Kind = 3 then (if a.Bits / 70368744177664 ≠ 1 ∨ a.Bits % 70368744177664 / 16777216 = 0 ∨ a.Bits % 70368744177664 / 16777216 = 4194303 then 1 else 0)
  else (if a.Bits / 70368744177664 ≠ (if a.Kind = 2 then 3 else 0) ∨ a.Bits % 70368744177664 = 0 ∨ a.Bits % 70368744177664 = 70368744177663 then 1 else 0)
def U64 (x : Int) : Prop := 0 ≤ x ∧ x < 18446744073709551616
theorem j1_ite (p : Prop) [Decidable p] (b : Bool) (hb : b = true ↔ p) : (if b = true then some (1 : Int) else some 0) = some (if p then 1 else 0) := by
  by_cases h : p
  · rw [if_pos (hb.2 h), if_pos h]
  · rw [if_neg (fun e => h (hb.1 e)), if_neg h]
theorem ucheck (F : Nat) (a : T_api_Address) (h : U64 a.Bits) : address_Check F a = some (chkA a) := by
  obtain ⟨h0, h1⟩ := h
  unfold address_Check chkA
  have e48 : shrp a.Bits 48 = a.Bits / 281474976710656 := shrp_div _ 48
  have e46 : shrp a.Bits 46 = a.Bits / 70368744177664 := shrp_div _ 46
  have e24 : shrp a.Bits 24 = a.Bits / 16777216 := shrp_div _ 24
  by_cases c1 : a.Kind ≤ 0 ∨ a.Kind ≥ 5
  · rw [if_pos (by simpa using c1), if_pos c1]
  rw [if_neg (by simpa using c1), if_neg c1, e48, e46]
  by_cases c2 : a.Bits ≥ 281474976710656
  · rw [if_pos (by simp; omega), if_pos c2]
  rw [if_neg (by simp; omega), if_neg c2]
  by_cases c3 : a.Kind = 1
  · rw [if_pos (by simpa using c3), if_pos c3]
  rw [if_neg (by simpa using c3), if_neg c3]
  unfold address_part address_part_j1 address_part_j2 address_Check_j1
  by_cases c4 : a.Kind = 3
  · have i22 : iand .u64 (a.Bits / 16777216) 4194303 = a.Bits / 16777216 % 4194304 := iand_mask _ 22 4194303 (by decide) (by decide) (by omega) (by omega)
    have e : a.Bits / 16777216 % 4194304 = a.Bits % 70368744177664 / 16777216 := by omega
    rw [if_pos (by simpa using c4), if_pos c4, mask22, Option.bind_some, e24, i22, e, Option.bind_some, c4, show idx [(0 : Int), 0, 3, 1, 0] 3 = some 1 from rfl, Option.bind_some, if_pos rfl]
    simp only
    by_cases c5 : a.Bits / 70368744177664 ≠ 1 ∨ a.Bits % 70368744177664 / 16777216 = 0
    · rw [if_pos (by simpa using c5), if_pos (by omega)]
    · rw [if_neg (by simpa using c5), mask22, Option.bind_some]
      exact j1_ite _ _ (by simp; omega)
  · have i46 : iand .u64 a.Bits 70368744177663 = a.Bits % 70368744177664 := iand_mask _ 46 70368744177663 (by decide) (by decide) (by omega) (by omega)
    rw [if_neg (by simpa using c4), if_neg c4, mask46, Option.bind_some, i46, Option.bind_some]
    have c5 : a.Kind = 2 ∨ a.Kind = 4 := by omega
    have key : ∀ pre : Int, idx [(0 : Int), 0, 3, 1, 0] a.Kind = some pre → (if a.Kind = 2 then (3 : Int) else 0) = pre → ((idx [(0 : Int), 0, 3, 1, 0] a.Kind).bind fun x_6 => if ((a.Bits / 70368744177664 != x_6) || ((a.Bits % 70368744177664, (46 : Int)).fst == 0)) = true then (if (true : Bool) = true then some (1 : Int) else some 0) else (address_mask F (a.Bits % 70368744177664, (46 : Int)).snd).bind fun x_8 => if ((a.Bits % 70368744177664, (46 : Int)).fst == x_8) = true then some 1 else some 0) = some (if a.Bits / 70368744177664 ≠ (if a.Kind = 2 then 3 else 0) ∨ a.Bits % 70368744177664 = 0 ∨ a.Bits % 70368744177664 = 70368744177663 then 1 else 0) := by
      intro pre k1 k2
      rw [k1, k2, Option.bind_some]
      by_cases c6 : a.Bits / 70368744177664 ≠ pre ∨ a.Bits % 70368744177664 = 0
      · rw [if_pos (by simpa using c6), if_pos rfl, if_pos (by omega)]
      · rw [if_neg (by simpa using c6), mask46, Option.bind_some]
        exact j1_ite _ _ (by simp; omega)
    rcases c5 with c5 | c5
    · exact key 3 (by rw [c5]; rfl) (by rw [if_pos c5])
    · exact key 0 (by rw [c5]; rfl) (if_neg (by omega))
theorem shr_bytes {v : Int} (i : Nat) (hi : i ≤ 8) (_h0 : 0 ≤ v) : ishr .u64 v (w64 (8 * i)) = some (v / 256 ^ i) := by
  rw [w64_id (by omega) (by omega)]
  unfold ishr
  rw [if_neg (by omega)]
  have h1 : min (8 * (i : Int)).toNat IntKind.u64.bits = 8 * i := by
    show min (8 * (i : Int)).toNat 64 = 8 * i
    omega
  rw [h1, show (2 : Int) ^ (8 * i) = 256 ^ i from by rw [Int.pow_mul]; rfl, Int.fdiv_eq_ediv_of_nonneg _ (Int.le_of_lt (pow_pos256 i))]
structure FieldOk (f : T_api_Field) : Prop where
  s0 : 1 ≤ f.Size
  s1 : f.Size ≤ 8
  v0 : 0 ≤ f.Value
  v1 : f.Value < 18446744073709551616
  v2 : f.Value < 256 ^ f.Size.toNat
theorem oput_in (F : Nat) (x : T_api_Field) (hx : FieldOk x) (l : List Int) (hl : l.length ≤ 1000000) (hF : 9 < F) : iter (fun s => octets_Put_l2 F x s.1 s.2) F (l, 0) = some (l ++ leb x.Size.toNat x.Value) := by
  obtain ⟨s0, s1, v0, v1, v2⟩ := hx
  have := iter_count (body := fun s : List Int × Int => octets_Put_l2 F x s.1 s.2) (fun i => (l ++ leb i x.Value, (i : Int))) x.Size.toNat (l ++ leb x.Size.toNat x.Value) (by
    intro i hi
    show octets_Put_l2 F x (l ++ leb i x.Value) i = _
    unfold octets_Put_l2
    rw [if_pos (by simp; omega), shr_bytes i (by omega) v0]
    simp only [Option.bind_some]
    rw [app_cat (by simp [leb_length]; omega)]
    simp only [Option.bind_some]
    rw [w64_nat i (by omega), leb_snoc, List.append_assoc]
    rfl) (by
    show octets_Put_l2 F x _ _ = _
    unfold octets_Put_l2
    rw [if_neg (by simp; omega)]) F 0 (by omega) (by omega)
  simpa [leb] using this
def putAll (fs : List T_api_Field) : List Int := (fs.map fun f => leb f.Size.toNat f.Value).flatten
theorem putAll_len : ∀ {fs : List T_api_Field}, (∀ f ∈ fs, FieldOk f) → (putAll fs).length ≤ 8 * fs.length
  | [], _ => by simp [putAll]
  | f :: fs, h => by
    have h1 := h f (by simp)
    have h2 := putAll_len (fs := fs) fun g hg => h g (by simp [hg])
    obtain ⟨s0, s1, _⟩ := h1
    simp only [putAll, List.map_cons, List.flatten_cons, List.length_append, leb_length, List.length_cons] at h2 ⊢
    omega
theorem oput_ok (F : Nat) (fs : List T_api_Field) (h : ∀ f ∈ fs, FieldOk f) (hn : fs.length ≤ 1000) (hF : fs.length + 9 < F) : octets_Put F fs = some (putAll fs, 0) := by
  unfold octets_Put
  have := iter_count (body := fun s : List Int × Int => octets_Put_l1 F fs s.1 s.2) (fun i => (putAll (fs.take i), (i : Int))) fs.length (.inl (putAll fs)) (by
    intro i hi
    have hx : fs[i]? = some fs[i] := List.getElem?_eq_getElem hi
    have hf := h fs[i] (List.getElem_mem hi)
    have hlen := putAll_len (fs := fs.take i) (fun f hf => h f (List.mem_of_mem_take hf))
    have htl : (fs.take i).length ≤ i := by simp; omega
    show octets_Put_l1 F fs (putAll (fs.take i)) i = _
    unfold octets_Put_l1
    rw [if_pos (by simp [len]; omega), idx_nat, hx]
    simp only [Option.bind_some, octets_sized]
    obtain ⟨s0, s1, v0, v1, v2⟩ := hf
    have hsz : (!(decide (fs[i].Size ≥ 1) && decide (fs[i].Size ≤ 8))) = false := by simp; omega
    rw [hsz]
    simp only [Bool.false_eq_true, if_false]
    have hz : ((if decide (fs[i].Size < 8) = true then (ishr IntKind.u64 fs[i].Value (w64 (8 * fs[i].Size))).bind fun x_16 => some (x_16 != 0) else some false)) = some false := by
      by_cases h8 : fs[i].Size < 8
      · rw [if_pos (by simpa using h8)]
        have := shr_bytes (v := fs[i].Value) fs[i].Size.toNat (by omega) v0
        rw [show ((fs[i].Size.toNat : Nat) : Int) = fs[i].Size from by omega] at this
        rw [this, Int.ediv_eq_zero_of_lt v0 v2]
        rfl
      · rw [if_neg (by simpa using h8)]
    rw [hz]
    simp only [Option.bind_some, Bool.false_eq_true, if_false]
    rw [oput_in F fs[i] ⟨s0, s1, v0, v1, v2⟩ _ (by omega) (by omega)]
    simp only [Option.bind_some, octets_Put_j2]
    rw [w64_nat i (by omega), List.take_add_one, hx]
    simp only [putAll, List.map_append, List.flatten_append, Option.toList_some, List.map_cons, List.map_nil, List.flatten_cons, List.flatten_nil, List.append_nil]) (by
    show octets_Put_l1 F fs _ _ = _
    unfold octets_Put_l1
    rw [if_neg (by simp [len]), List.take_length]) F 0 (by omega) (by omega)
  simp only [List.take_zero] at this
  have h0 : (putAll [], ((0 : Nat) : Int)) = (([] : List Int), (0 : Int)) := rfl
  rw [h0] at this
  rw [this]
  rfl


def I64 (x : Int) : Prop := 0 ≤ x ∧ x < 18446744073709551616
theorem iter_sim {S1 S2 O1 O2 : Type} {b1 : S1 → Option (Out S1 O1)} {b2 : S2 → Option (Out S2 O2)} (R : S1 → S2 → Prop) (Q : O1 → O2 → Prop) (m : S1 → Nat)
    (h : ∀ s1 s2, R s1 s2 → (∃ t1 t2, b1 s1 = some (.next t1) ∧ b2 s2 = some (.next t2) ∧ R t1 t2 ∧ m t1 < m s1) ∨ ∃ o1 o2, b1 s1 = some (.done o1) ∧ b2 s2 = some (.done o2) ∧ Q o1 o2) :
    ∀ (F : Nat) (s1 : S1) (s2 : S2), R s1 s2 → m s1 < F → ∃ o1 o2, iter b1 F s1 = some o1 ∧ iter b2 F s2 = some o2 ∧ Q o1 o2
  | 0, _, _, _, hF => by omega
  | F + 1, s1, s2, hR, hF => by
    rcases h s1 s2 hR with ⟨t1, t2, h1, h2, hR', hm⟩ | ⟨o1, o2, h1, h2, hq⟩
    · obtain ⟨o1, o2, h3, h4, hq⟩ := iter_sim R Q m h F t1 t2 hR' (by omega)
      exact ⟨o1, o2, by rw [iter_step h1, h3], by rw [iter_step h2, h4], hq⟩
    · exact ⟨o1, o2, iter_stop h1, iter_stop h2, hq⟩
theorem ior64 (a b : Nat) (ha : a < 2 ^ 64) (hb : b < 2 ^ 64) : ior .u64 (a : Int) (b : Int) = ((a ||| b : Nat) : Int) := by
  have h := Nat.or_lt_two_pow ha hb
  unfold ior
  have e : (BitVec.ofInt IntKind.u64.bits (a : Int) ||| BitVec.ofInt IntKind.u64.bits (b : Int)).toNat = a ||| b := by
    rw [BitVec.toNat_or]
    show (BitVec.ofInt 64 (a : Int)).toNat ||| (BitVec.ofInt 64 (b : Int)).toNat = _
    rw [ofInt_nat 64 a ha, ofInt_nat 64 b hb]
  rw [e, wrap_u64, wu64_id (by omega) (by omega)]
theorem shrp_eq (x : Int) (n : Nat) : shrp x n = x / 2 ^ n := by
  unfold shrp
  rw [Int.fdiv_eq_ediv_of_nonneg _ (Int.le_of_lt (Int.pow_pos (by decide)))]
theorem ior_num {b : List Int} {i : Nat} (hb : ∀ x ∈ b, Byte x) (hi : i < 8) (x : Int) (hx : b[i]? = some x) : ior .u64 (num (b.take i)) (x * 256 ^ i) = num (b.take (i + 1)) := by
  have hl : (b.take i).length = i := by
    have := (List.getElem?_eq_some_iff.1 hx).1
    simp; omega
  have ht : ∀ x ∈ b.take i, Byte x := fun x hx => hb x (List.mem_of_mem_take hx)
  have h1 := num_lt ht
  rw [hl] at h1
  rw [ior_add _ _ i hi (num_nonneg ht) h1 (hb x (List.mem_of_getElem? hx)), List.take_add_one, hx, num_append, hl]
  simp only [Option.toList_some, num]
  rw [Int.mul_zero, Int.add_zero, Int.mul_comm]
theorem join_three (F : Nat) (a b c : List Int) (hF : 3 < F) (h : a.length + b.length + c.length ≤ 140737488355328) : octets_Join F [a, b, c] = some (a ++ b ++ c) := by
  unfold octets_Join
  obtain ⟨F', rfl⟩ : ∃ F', F = F' + 1 + 1 + 1 + 1 := ⟨F - 4, by omega⟩
  have h1 : octets_Join_l1 (F' + 1 + 1 + 1 + 1) [a, b, c] [] 0 = some (.next (a, 1)) := by simpa using join_step (F' + 1 + 1 + 1 + 1) [a, b, c] [] 0 a rfl (by simp; omega) (by simp)
  have h2 : octets_Join_l1 (F' + 1 + 1 + 1 + 1) [a, b, c] a 1 = some (.next (a ++ b, 2)) := by simpa using join_step (F' + 1 + 1 + 1 + 1) [a, b, c] a 1 b rfl (by omega) (by simp)
  have h3 : octets_Join_l1 (F' + 1 + 1 + 1 + 1) [a, b, c] (a ++ b) 2 = some (.next (a ++ b ++ c, 3)) := by simpa using join_step (F' + 1 + 1 + 1 + 1) [a, b, c] (a ++ b) 2 c rfl (by rw [List.length_append]; omega) (by simp)
  rw [iter_step h1, iter_step h2, iter_step h3, iter_stop (o := a ++ b ++ c) (by unfold octets_Join_l1; rw [if_neg (by simp [len])])]
  rfl
def I32 (x : Int) : Prop := 0 ≤ x ∧ x < 4294967296
theorem ixor32_rng (a b : Int) : I32 (ixor .u32 a b) := by
  unfold ixor I32
  rw [wrap_u32]
  unfold wu32
  omega
theorem ixor64_rng (a b : Int) : I64 (ixor .u64 a b) := by
  unfold ixor I64
  rw [wrap_u64]
  unfold wu64
  omega
def rot (x : Int) (n m : Nat) : Int := ior .u32 (IntKind.u32.wrap (x * 2 ^ n)) (x.fdiv (2 ^ m))
theorem ishl_lit (x : Int) (n : Nat) (hn : n ≤ 32) : ishl .u32 x (n : Int) = some (IntKind.u32.wrap (x * 2 ^ n)) := by
  unfold ishl
  rw [if_neg (by omega)]
  have : min (n : Int).toNat IntKind.u32.bits = n := by
    show min (n : Int).toNat 32 = n
    omega
  rw [this]
theorem ishr_lit (k : IntKind) (x : Int) (n : Nat) (hn : n ≤ k.bits) : ishr k x (n : Int) = some (x.fdiv (2 ^ n)) := by
  unfold ishr
  rw [if_neg (by omega)]
  have : min (n : Int).toNat k.bits = n := by omega
  rw [this]
theorem rot_u (F : Nat) (x : Int) (n : Nat) (h1 : 1 ≤ n) (h2 : n ≤ 31) (e : iand .u64 (wu64 (n : Int)) 31 = (n : Int)) : math_bits_RotateLeft32 F x (n : Int) = some (rot x n (32 - n)) := by
  unfold math_bits_RotateLeft32
  rw [e, show wu64 (32 - (n : Int)) = ((32 - n : Nat) : Int) from by rw [wu64_id (by omega) (by omega)]; omega, ishl_lit x n (by omega), ishr_lit .u32 x (32 - n) (by show 32 - n ≤ 32; omega), Option.bind_some, Option.bind_some]
  rfl
def rnd (lo h : Int) : Int := ixor .u32 (wu32 (rot (wu32 (h + lo)) 7 25 * 2654435761)) (rot lo 16 16)
/-- A key, turned to the left. -/
def trn (k : Int) (t : Nat) : Int := ior .u64 (IntKind.u64.wrap (k * 2 ^ t)) (k.fdiv (2 ^ (64 - t)))
def low (k : Int) (i : Nat) : Int := wu32 (trn k (11 * i % 64) % 4294967296)
theorem ior64_rng (a b : Int) : I64 (ior .u64 a b) := by
  unfold ior I64
  rw [wrap_u64]
  unfold wu64
  omega
theorem ishl64_lit (x : Int) (n : Nat) (hn : n ≤ 64) : ishl .u64 x (n : Int) = some (IntKind.u64.wrap (x * 2 ^ n)) := by
  unfold ishl
  rw [if_neg (by omega)]
  have : min (n : Int).toNat IntKind.u64.bits = n := by
    show min (n : Int).toNat 64 = n
    omega
  rw [this]
theorem trn_u (F : Nat) (k : Int) (t : Nat) (ht : t < 64) : math_bits_RotateLeft64 F k (t : Int) = some (trn k t) := by
  unfold math_bits_RotateLeft64
  have e : iand .u64 (wu64 (t : Int)) 63 = (t : Int) := by
    have h1 := iand_mask (t : Int) 6 63 (by decide) (by decide) (by omega) (by omega)
    rw [show ((63 : Nat) : Int) = 63 from rfl] at h1
    rw [wu64_id (by omega) (by omega), h1]
    omega
  rw [e, show wu64 (64 - (t : Int)) = ((64 - t : Nat) : Int) from by rw [wu64_id (by omega) (by omega)]; omega, ishl64_lit k t (by omega), ishr_lit .u64 k (64 - t) (by show 64 - t ≤ 64; omega), Option.bind_some, Option.bind_some]
  rfl
theorem iand_mod (x : Int) (h0 : 0 ≤ x) (h1 : x < 18446744073709551616) : iand .u64 x 4294967295 = x % 4294967296 := by
  obtain ⟨a, rfl⟩ := Int.eq_ofNat_of_zero_le h0
  unfold iand
  have e : (BitVec.ofInt IntKind.u64.bits (a : Int) &&& BitVec.ofInt IntKind.u64.bits 4294967295).toNat = a % 4294967296 := by
    rw [BitVec.toNat_and]
    show (BitVec.ofInt 64 (a : Int)).toNat &&& (BitVec.ofInt 64 ((4294967295 : Nat) : Int)).toNat = _
    rw [ofInt_nat 64 a (by omega), ofInt_nat 64 4294967295 (by decide), show (4294967295 : Nat) = 2 ^ 32 - 1 from by decide, Nat.and_two_pow_sub_one_eq_mod]
  rw [e, wrap_u64, wu64_id (by omega) (by omega)]
  omega
theorem slow (F : Nat) (x : Int) : serial_Low F x 32 = some (iand .u64 x 4294967295) := by
  unfold serial_Low
  rw [if_neg (by decide), if_neg (by decide), show ishl .u64 1 32 = some 4294967296 from by kernel_rfl, Option.bind_some]
  rfl
theorem round_u (F : Nat) (k : Int) (i : Nat) (h1 : i < 8) (h : Int) : block_Round F k i h = some (rnd (low k i) h) := by
  unfold block_Round
  have e0 : remp (w64 (11 * (remp (i : Int) 64))) 64 = ((11 * i % 64 : Nat) : Int) := by
    unfold remp
    rw [Int.tmod_eq_emod_of_nonneg (a := (i : Int)) (by omega), w64_id (by omega) (by omega), Int.tmod_eq_emod_of_nonneg (by omega)]
    omega
  have hr := ior64_rng (IntKind.u64.wrap (k * 2 ^ (11 * i % 64))) (k.fdiv (2 ^ (64 - (11 * i % 64))))
  rw [e0, trn_u F k _ (by omega), Option.bind_some, slow, Option.bind_some, iand_mod (trn k (11 * i % 64)) hr.1 hr.2]
  have r1 := rot_u F (wu32 (h + low k i)) 7 (by decide) (by decide) (by kernel_rfl)
  have r2 := rot_u F (low k i) 16 (by decide) (by decide) (by kernel_rfl)
  rw [show ((7 : Nat) : Int) = 7 from rfl] at r1
  rw [show ((16 : Nat) : Int) = 16 from rfl] at r2
  show (math_bits_RotateLeft32 F (wu32 (h + low k i)) 7).bind (fun x_6 => (math_bits_RotateLeft32 F (low k i) 16).bind fun x_7 => some (ixor .u32 (wu32 (x_6 * 2654435761)) x_7)) = _
  rw [r1, r2, Option.bind_some, Option.bind_some]
  rfl
def mx (k : Int) : Nat → Int × Int → Int × Int
  | 0, s => s
  | n + 1, s => ((mx k n s).2, ixor .u32 (mx k n s).1 (rnd (low k n) (mx k n s).2))
theorem mx_rng (k : Int) : ∀ (n : Nat) (s : Int × Int), I32 s.1 → I32 s.2 → I32 (mx k n s).1 ∧ I32 (mx k n s).2
  | 0, _, h1, h2 => ⟨h1, h2⟩
  | n + 1, s, h1, h2 => ⟨(mx_rng k n s h1 h2).2, ixor32_rng _ _⟩
def mixk (k x : Int) : Int := (mx k 8 (x / 4294967296, x % 4294967296)).1 * 4294967296 + (mx k 8 (x / 4294967296, x % 4294967296)).2
theorem mixk_rng (k : Int) {x : Int} (h : I64 x) : I64 (mixk k x) := by
  obtain ⟨h0, h1⟩ := h
  obtain ⟨⟨a1, a2⟩, b1, b2⟩ := mx_rng k 8 (x / 4294967296, x % 4294967296) ⟨by simp only; omega, by simp only; omega⟩ ⟨by simp only; omega, by simp only; omega⟩
  unfold mixk I64
  omega
theorem split_ok (F : Nat) {x : Int} (h : I64 x) : block_split F x = some (x / 4294967296, x % 4294967296) := by
  obtain ⟨h0, h1⟩ := h
  have e1 : ∀ x, serial_Low F x 32 = some (iand .u64 x 4294967295) := by
    intro x
    unfold serial_Low
    rw [if_neg (by decide), if_neg (by decide), show ishl .u64 1 32 = some 4294967296 from by kernel_rfl, Option.bind_some]
    rfl
  unfold block_split
  rw [e1, Option.bind_some, iand_mod x h0 h1, shrp_eq, show (2 : Int) ^ 32 = 4294967296 from rfl, wu32_id (by omega) (by omega), wu32_id (by omega) (by omega)]
theorem mix_iter (F : Nat) (k : Int) (b : Int × Int × Int → Option (Out (Int × Int × Int) (Int × Int))) (s : Int × Int) (hF : 8 < F)
    (h : ∀ (x y : Int) (i : Nat), i < 8 → b (x, y, (i : Int)) = some (.next (y, ixor .u32 x (rnd (low k i) y), ((i + 1 : Nat) : Int)))) (hd : ∀ x y : Int, b (x, y, 8) = some (.done (x, y))) : iter b F (s.1, s.2, 0) = some (mx k 8 s) := by
  have := iter_count (body := b) (fun i => ((mx k i s).1, (mx k i s).2, (i : Int))) 8 (mx k 8 s) (fun i hi => h _ _ i hi) (hd _ _) F 0 (by omega) (by omega)
  exact this
theorem mix_u (F : Nat) (k : Int) {x : Int} (h : I64 x) (hF : 8 < F) : block_Mix F k x = some (mixk k x) := by
  have hm := mx_rng k 8 (x / 4294967296, x % 4294967296) (by obtain ⟨h0, h1⟩ := h; exact ⟨by simp only; omega, by simp only; omega⟩) (by obtain ⟨h0, h1⟩ := h; exact ⟨by simp only; omega, by simp only; omega⟩)
  unfold block_Mix
  rw [split_ok F h, Option.bind_some]
  have := mix_iter F k (fun s => block_Mix_l1 F k s.1 s.2.1 s.2.2) (x / 4294967296, x % 4294967296) hF (by
    intro x y i hi
    show block_Mix_l1 F k x y (i : Int) = _
    unfold block_Mix_l1
    rw [if_pos (dt (by omega)), round_u F k i (by omega), Option.bind_some, w64_nat i (by omega)]) (by
    intro x y
    show block_Mix_l1 F k x y 8 = _
    unfold block_Mix_l1
    rw [if_neg (by decide)])
  rw [this, Option.bind_some]
  unfold block_Mix_j1 block_halves_join mixk
  generalize mx k 8 (x / 4294967296, x % 4294967296) = t at hm
  obtain ⟨⟨a0, a1⟩, b0, b1⟩ := hm
  obtain ⟨a, b⟩ := t
  simp only at a0 a1 b0 b1 ⊢
  obtain ⟨a, rfl⟩ := Int.eq_ofNat_of_zero_le a0
  obtain ⟨b, rfl⟩ := Int.eq_ofNat_of_zero_le b0
  have e : shlp .u64 (wu64 (a : Int)) 32 = ((a * 2 ^ 32 : Nat) : Int) := by
    unfold shlp
    rw [wu64_id (by omega) (by omega), wrap_u64, show (a : Int) * 2 ^ 32 = ((a * 2 ^ 32 : Nat) : Int) from by rw [Int.natCast_mul]; rfl, wu64_id (by omega) (by omega)]
  rw [Option.bind_some, e, wu64_id (x := (b : Int)) (by omega) (by omega), ior64 _ _ (by omega) (by omega), Nat.or_comm, nat_or_add _ _ 32 (by omega)]
  congr 1
  omega
theorem chunk_u (F : Nat) (l : List Int) (hb : ∀ x ∈ l, Byte x) (hl : l.length ≤ 8) (hF : 8 < F) : iter (fun s : Int × Int => mac_Tag_it_l2 F l s.1 s.2) F (0, 0) = some (num l) := by
  have := iter_count (body := fun s : Int × Int => mac_Tag_it_l2 F l s.1 s.2) (fun i => (num (l.take i), (i : Int))) l.length (num l) (by
    intro i hi
    have hx : l[i]? = some l[i] := List.getElem?_eq_getElem hi
    show mac_Tag_it_l2 F l (num (l.take i)) (i : Int) = _
    unfold mac_Tag_it_l2
    rw [if_pos (dt (show (i : Int) < len l by rw [len_nat]; omega)), idx_nat, hx, Option.bind_some, shl_bytes (hb _ (List.mem_of_getElem? hx)) i (by omega), Option.bind_some, w64_nat i (by omega), ior_num hb (by omega) _ hx]) (by
    show mac_Tag_it_l2 F l _ (l.length : Int) = _
    unfold mac_Tag_it_l2
    rw [if_neg (df (by rw [len_nat]; omega)), List.take_length]) F 0 (by omega) (by omega)
  exact this
theorem tag_ok (F : Nat) {k : Int} (b : List Int) (hb : ∀ x ∈ b, Byte x) (hl : b.length ≤ 1000000000) (hF : 1000000020 < F) : ∃ x, mac_Tag F k b = some x ∧ I64 x := by
  have h0 : I64 (wu64 (len b)) := by rw [len_nat, wu64_id (by omega) (by omega)]; exact ⟨by omega, by omega⟩
  obtain ⟨o1, o2, h1, h2, h3, h4⟩ := iter_sim (b1 := fun s : Int × Int => mac_Tag_it_l1 F k b s.1 s.2) (b2 := fun s : Int × Int => mac_Tag_it_l1 F k b s.1 s.2)
    (fun s t => s = t ∧ I64 s.1 ∧ ∃ i : Nat, s.2 = (i : Int) ∧ i ≤ b.length + 8) (fun a b => a = b ∧ I64 a) (fun s => b.length + 8 - s.2.toNat) (by
    rintro ⟨x, at_⟩ _ ⟨rfl, hx, i, hi, hil⟩
    simp only at hx hi
    subst hi
    show (∃ t1 t2, mac_Tag_it_l1 F k b x (i : Int) = some (.next t1) ∧ mac_Tag_it_l1 F k b x (i : Int) = some (.next t2) ∧ _) ∨ ∃ o1 o2, mac_Tag_it_l1 F k b x (i : Int) = some (.done o1) ∧ mac_Tag_it_l1 F k b x (i : Int) = some (.done o2) ∧ _
    unfold mac_Tag_it_l1
    by_cases hin : i < b.length
    · have hmin : imin (w64 ((i : Int) + 8)) (len b) = ((min (i + 8) b.length : Nat) : Int) := by
        rw [w64_id (by omega) (by omega), len_nat]
        unfold imin
        by_cases h : (b.length : Int) < (i : Int) + 8
        · rw [if_pos h]; omega
        · rw [if_neg h]; omega
      have hcb : ∀ y ∈ (b.take (min (i + 8) b.length)).drop i, Byte y := fun y hy => hb y (List.mem_of_mem_take (List.mem_of_mem_drop hy))
      have hcl : ((b.take (min (i + 8) b.length)).drop i).length ≤ 8 := by rw [List.length_drop, List.length_take]; omega
      rw [if_pos (dt (show (i : Int) < len b by rw [len_nat]; omega)), hmin, sub_nat b i _ (by omega) (by omega), Option.bind_some, chunk_u F _ hcb hcl (by omega), Option.bind_some]
      unfold mac_Tag_it_j2 mac_Tag_b
      have hr := ixor64_rng x (num ((b.take (min (i + 8) b.length)).drop i))
      rw [mix_u F k hr (by omega), Option.bind_some, Option.bind_some]
      unfold mac_Tag_it_j1
      refine .inl ⟨_, _, rfl, rfl, ⟨rfl, mixk_rng k hr, i + 8, ?_, by omega⟩, ?_⟩
      · simp only
        rw [w64_id (by omega) (by omega)]
        omega
      · simp only
        rw [w64_id (by omega) (by omega)]
        omega
    · rw [if_neg (df (show ¬ (i : Int) < len b by rw [len_nat]; omega))]
      exact .inr ⟨_, _, rfl, rfl, rfl, hx⟩) F (mixk k (wu64 (len b)), 0) (mixk k (wu64 (len b)), 0) ⟨rfl, mixk_rng k h0, 0, rfl, by omega⟩ (by simp only; omega)
  refine ⟨o1, ?_, h4⟩
  unfold mac_Tag mac_Tag_it
  rw [mix_u F k h0 (by omega), Option.bind_some, h1]
  rfl
theorem derive_ok (F : Nat) {k : Int} (lbl : List Int) (hlb : ∀ z ∈ lbl, Byte z) (hll : lbl.length ≤ 100) (x : Int) (hx : I64 x) (hF : 1000000020 < F) : ∃ y, mac_Derive F k lbl [x] = some y ∧ I64 y := by
  obtain ⟨y, h1, h3⟩ := tag_ok F (k := k) (lbl ++ [0] ++ leb 8 x) (by
    intro z hz
    rcases List.mem_append.1 hz with hz | hz
    · rcases List.mem_append.1 hz with hz | hz
      · exact hlb z hz
      · simp at hz
        unfold Byte
        omega
    · exact leb_byte _ _ z hz) (by rw [List.length_append, List.length_append, leb_length]; simp; omega) hF
  refine ⟨y, ?_, h3⟩
  unfold mac_Derive mac_bytes
  obtain ⟨F', rfl⟩ : ∃ F', F = F' + 1 + 1 := ⟨F - 2, by omega⟩
  have s1 : mac_bytes_l1 (F' + 1 + 1) [x] [] 0 = some (.next ([T_api_Field.mk 8 x], 1)) := by
    unfold mac_bytes_l1
    rw [if_pos (by simp [len]), show idx [x] 0 = some x from rfl, Option.bind_some, app_small (by simp) (by omega), Option.bind_some]
    rfl
  have s2 : mac_bytes_l1 (F' + 1 + 1) [x] [T_api_Field.mk 8 x] 1 = some (.done [T_api_Field.mk 8 x]) := by
    unfold mac_bytes_l1
    rw [if_neg (by simp [len])]
  rw [app_cat (by simp; omega), Option.bind_some, iter_step (body := fun s : List T_api_Field × Int => mac_bytes_l1 (F' + 1 + 1) [x] s.1 s.2) s1, iter_stop (body := fun s : List T_api_Field × Int => mac_bytes_l1 (F' + 1 + 1) [x] s.1 s.2) s2, Option.bind_some]
  unfold mac_bytes_j1
  rw [oput_ok (F' + 1 + 1) [T_api_Field.mk 8 x] (by
    intro f hf
    simp at hf
    subst hf
    exact ⟨by simp, by simp, hx.1, hx.2, hx.2⟩) (by simp) (by simp; omega), Option.bind_some, Option.bind_some]
  have hp : putAll [T_api_Field.mk 8 x] = leb 8 x := by simp [putAll]
  rw [hp, List.nil_append, join_three _ _ _ _ (by omega) (by rw [leb_length]; simp; omega), Option.bind_some, h1]
  rfl
theorem hash_ok (F : Nat) {k x : Int} (hx : I64 x) (hF : 1000000020 < F) : ∃ h, privacy_hash F k x = some h ∧ 0 ≤ h ∧ h < 16777216 := by
  obtain ⟨y, h1, h3⟩ := derive_ok F (k := k) [114, 112, 97] (by intro z hz; simp at hz; unfold Byte; omega) (by simp) x hx hF
  refine ⟨y % 16777216, ?_, by omega, by omega⟩
  unfold privacy_hash
  rw [h1, Option.bind_some]
  have e := iand_mask y 24 16777215 (by decide) (by decide) h3.1 h3.2
  rw [show ((16777215 : Nat) : Int) = 16777215 from rfl] at e
  rw [e]
  rfl
/-- The address of a key and a random part. -/
def rpa (p h : Int) : T_api_Address := T_api_Address.mk 3 (70368744177664 + p * 16777216 + h)
theorem rpa_chk {p h : Int} (p0 : 1 ≤ p) (p1 : p ≤ 4194302) (h0 : 0 ≤ h) (h1 : h < 16777216) : chkA (rpa p h) = 0 := by
  unfold chkA
  have hb : (rpa p h).Bits = 70368744177664 + p * 16777216 + h := rfl
  have hk : (rpa p h).Kind = 3 := rfl
  rw [hb, hk, if_neg (by decide), if_neg (by omega), if_neg (by decide), if_pos rfl, if_neg (by omega)]
theorem resolves_ok (F : Nat) {k p h : Int} (hk : k ≠ 0) (p0 : 1 ≤ p) (p1 : p ≤ 4194302) (hh : privacy_hash F k p = some h) (h0 : 0 ≤ h) (h1 : h < 16777216) : privacy_Resolves F k (rpa p h) = some true := by
  unfold privacy_Resolves
  have hb : (rpa p h).Bits = 70368744177664 + p * 16777216 + h := rfl
  have hkd : (rpa p h).Kind = 3 := rfl
  rw [ucheck F (rpa p h) ⟨by rw [hb]; omega, by rw [hb]; omega⟩, rpa_chk p0 p1 h0 h1, if_neg (by simp [hk, hkd]), Option.bind_some, Option.bind_some, if_neg (by simp), hb]
  have e1 : iand .u64 (shrp (70368744177664 + p * 16777216 + h) 24) 4194303 = p := by
    have h3 : shrp (70368744177664 + p * 16777216 + h) 24 = (70368744177664 + p * 16777216 + h) / 16777216 := shrp_div _ 24
    rw [h3]
    have e := iand_mask ((70368744177664 + p * 16777216 + h) / 16777216) 22 4194303 (by decide) (by decide) (by omega) (by omega)
    rw [show ((4194303 : Nat) : Int) = 4194303 from rfl] at e
    rw [e]
    show _ % 4194304 = p
    omega
  have e3 : iand .u64 (70368744177664 + p * 16777216 + h) 16777215 = h := by
    have e := iand_mask (70368744177664 + p * 16777216 + h) 24 16777215 (by decide) (by decide) (by omega) (by omega)
    rw [show ((16777215 : Nat) : Int) = 16777215 from rfl] at e
    rw [e]
    show _ % 16777216 = h
    omega
  rw [e1, e3, hh, Option.bind_some]
  simp [privacy_Resolves_j1]
theorem resolves_none (F : Nat) {a : T_api_Address} : privacy_Resolves F 0 a = some false := by
  unfold privacy_Resolves
  rw [if_pos (by simp)]
  rfl
end V
end Go.Proofs.YtladkmnfmpojiaaGreatDoor
namespace Go.Proofs.YtladkmnfmpojiaaGreatDoor
namespace V
theorem ior_hi (a b i : Nat) (ha : a < 2 ^ i) (hb : b * 2 ^ i < 2 ^ 64) (hi : i ≤ 63) : ior .u64 ((b * 2 ^ i : Nat) : Int) (a : Int) = ((b * 2 ^ i + a : Nat) : Int) := by
  have h1 : (2 : Nat) ^ i ≤ 2 ^ 63 := Nat.pow_le_pow_right (by decide) hi
  rw [ior64 _ _ hb (by omega), Nat.or_comm, nat_or_add a b i ha, Nat.add_comm]
theorem shl_hi (b i : Nat) (hb : b * 2 ^ i < 2 ^ 64) : shlp .u64 (b : Int) i = ((b * 2 ^ i : Nat) : Int) := by
  unfold shlp
  rw [wrap_u64, show (b : Int) * 2 ^ i = ((b * 2 ^ i : Nat) : Int) from by rw [Int.natCast_mul, Int.natCast_pow]; rfl, wu64_id (by omega) (by omega)]
theorem mask24 (F : Nat) : address_mask F 24 = some 16777215 := by kernel_rfl
theorem fit_ok (F : Nat) {p : Int} (p0 : 1 ≤ p) (p1 : p ≤ 4194302) : address_fit F p 22 = some p := by
  unfold address_fit
  have e := iand_mask p 22 4194303 (by decide) (by decide) (by omega) (by omega)
  rw [show ((4194303 : Nat) : Int) = 4194303 from rfl] at e
  have e2 : p % ((4194303 + 1 : Nat) : Int) = p := by
    show p % 4194304 = p
    omega
  rw [mask22, Option.bind_some, Option.bind_some, e, e2, show wu64 (4194303 - 1) = 4194302 from by decide]
  unfold imin imax
  congr 1
  repeat' split
  all_goals omega
theorem random_ok (F : Nat) {p h : Int} (p0 : 1 ≤ p) (p1 : p ≤ 4194302) (h0 : 0 ≤ h) (h1 : h < 16777216) : address_Random F 3 (ior .u64 (shlp .u64 (wu64 p) 24) h) = some (rpa p h) := by
  obtain ⟨p, rfl⟩ := Int.eq_ofNat_of_zero_le (show 0 ≤ p by omega)
  obtain ⟨h, rfl⟩ := Int.eq_ofNat_of_zero_le h0
  have eb : ior .u64 (shlp .u64 (wu64 (p : Int)) 24) (h : Int) = ((p * 2 ^ 24 + h : Nat) : Int) := by
    rw [wu64_id (by omega) (by omega), shl_hi p 24 (by omega), ior_hi h p 24 (by omega) (by omega) (by decide)]
  rw [eb]
  unfold address_Random address_Random_j1 address_Random_j3
  have e24 : shrp ((p * 2 ^ 24 + h : Nat) : Int) 24 = (p : Int) := by
    rw [shrp_div]
    omega
  have em : iand .u64 ((p * 2 ^ 24 + h : Nat) : Int) 16777215 = (h : Int) := by
    have e := iand_mask ((p * 2 ^ 24 + h : Nat) : Int) 24 16777215 (by decide) (by decide) (by omega) (by omega)
    rw [show ((16777215 : Nat) : Int) = 16777215 from rfl] at e
    rw [e]
    show _ % 16777216 = _
    omega
  rw [if_neg (by decide), if_neg (by decide), if_neg (by decide), if_pos (by decide), show idx [(0 : Int), 0, 3, 1, 0] 3 = some 1 from rfl, Option.bind_some, e24, fit_ok F p0 p1, Option.bind_some, mask24, Option.bind_some, em]
  have e1 : shlp .u64 (1 : Int) 46 = ((70368744177664 : Nat) : Int) := by decide +kernel
  have e2 := shl_hi p 24 (by omega)
  rw [e1, e2, show (70368744177664 : Nat) = 4194304 * 2 ^ 24 from rfl, ior64 _ _ (by omega) (by omega)]
  have e3 : 4194304 * 2 ^ 24 ||| p * 2 ^ 24 = (4194304 + p) * 2 ^ 24 := by
    rw [show (4194304 : Nat) * 2 ^ 24 = 1 * 2 ^ 46 from rfl, Nat.or_comm, nat_or_add (p * 2 ^ 24) 1 46 (by omega)]
    omega
  rw [e3, ior_hi h (4194304 + p) 24 (by omega) (by omega) (by decide)]
  unfold rpa
  congr 2
  omega
/-- What the address of a period is. -/
theorem at_ok (F : Nat) {k : Int} (hk0 : k ≠ 0) (e : Int) (hF : 1000000020 < F) : ∃ p h, privacy_At F k e = some (rpa p h) ∧ 1 ≤ p ∧ p ≤ 4194302 ∧ privacy_hash F k p = some h ∧ 0 ≤ h ∧ h < 16777216 := by
  have hw : I64 (wu64 e) := by unfold wu64 I64; omega
  obtain ⟨y, h1, h2⟩ := derive_ok F (k := k) [101, 112, 111, 99, 104] (by intro z hz; simp at hz; unfold Byte; omega) (by simp) (wu64 e) hw hF
  have hp : wu32 (wu64 (1 + remp y 4194302)) = 1 + y % 4194302 := by
    unfold remp
    rw [Int.tmod_eq_emod_of_nonneg h2.1, wu64_id (by omega) (by omega), wu32_id (by omega) (by omega)]
  obtain ⟨h, q1, q2, q3⟩ := hash_ok F (k := k) (x := 1 + y % 4194302) ⟨by omega, by omega⟩ hF
  refine ⟨1 + y % 4194302, h, ?_, by omega, by omega, q1, q2, q3⟩
  unfold privacy_At privacy_Make
  rw [h1, Option.bind_some, hp, if_neg (by simpa using hk0), if_neg (by simp; omega), wu64_id (x := 1 + y % 4194302) (by omega) (by omega), q1, Option.bind_some]
  have := random_ok F (p := 1 + y % 4194302) (h := h) (by omega) (by omega) q2 q3
  rw [wu64_id (x := 1 + y % 4194302) (by omega) (by omega)] at this
  rw [this, Option.bind_some, Option.bind_some]
theorem current_ok (F : Nat) {k : Int} (hk0 : k ≠ 0) (t q : Int) (hF : 1000000020 < F) (hq : 1 ≤ q) (ht : 0 ≤ t) : ∃ e p h, iquo .i64 t q = some e ∧ privacy_At F k e = some (rpa p h) ∧ privacy_Current F (T_api_Identity.mk (T_api_Address.mk 1 5) k) true t q = some (rpa p h) ∧ 1 ≤ p ∧ p ≤ 4194302 ∧ privacy_hash F k p = some h ∧ 0 ≤ h ∧ h < 16777216 := by
  obtain ⟨e, he⟩ : ∃ e, iquo .i64 t q = some e := by
    unfold iquo
    rw [if_neg (by omega)]
    exact ⟨_, rfl⟩
  obtain ⟨p, h, h1, h2⟩ := at_ok F hk0 e hF
  refine ⟨e, p, h, he, h1, ?_, h2⟩
  unfold privacy_Current privacy_Epoch privacy_Current_j1
  rw [if_neg (by simpa using hk0), if_neg (by simp; omega), he, Option.bind_some, Option.bind_some]
  show (privacy_At F k e).bind _ = _
  rw [h1, Option.bind_some]
/-- The first identity of a list of one. -/
theorem find_one (F : Nat) (id : T_api_Identity) {p h : Int} (p0 : 1 ≤ p) (p1 : p ≤ 4194302) (h0 : 0 ≤ h) (h1 : h < 16777216) (b : Bool) (hid : id.Address.Kind = 1) (hr : privacy_Resolves F id.IRK (rpa p h) = some b) (hF : 2 < F) : privacy_Find F [id] (rpa p h) = some (if b = true then 0 else -1) := by
  have hb : (rpa p h).Bits = 70368744177664 + p * 16777216 + h := rfl
  have hkd : (rpa p h).Kind = 3 := rfl
  unfold privacy_Find
  rw [ucheck F (rpa p h) ⟨by rw [hb]; omega, by rw [hb]; omega⟩, rpa_chk p0 p1 h0 h1, Option.bind_some, if_neg (by simp)]
  have hf : privacy_Find_1 F id (rpa p h) = some (b, rpa p h) := by
    unfold privacy_Find_1
    rw [if_neg (by simp [hid, hkd]), hr]
    rfl
  obtain ⟨F', rfl⟩ : ∃ F', F = F' + 1 + 1 := ⟨F - 2, by omega⟩
  unfold slices_IndexFunc_api_Identity_api_Identity_at17
  have s1 : slices_IndexFunc_api_Identity_api_Identity_at17_l1 (F' + 1 + 1) [id] (rpa p h) 0 = if b = true then some (.done (.inr (0, rpa p h))) else some (.next (rpa p h, 1)) := by
    unfold slices_IndexFunc_api_Identity_api_Identity_at17_l1
    rw [if_pos (by simp [len]), show idx [id] 0 = some id from rfl, Option.bind_some, hf, Option.bind_some]
    rfl
  cases b with
  | true =>
    rw [iter_stop (body := fun s : T_api_Address × Int => slices_IndexFunc_api_Identity_api_Identity_at17_l1 (F' + 1 + 1) [id] s.1 s.2) (s := (rpa p h, 0)) (o := .inr (0, rpa p h)) s1]
    rfl
  | false =>
    have s2 : slices_IndexFunc_api_Identity_api_Identity_at17_l1 (F' + 1 + 1) [id] (rpa p h) 1 = some (.done (.inl (rpa p h))) := by
      unfold slices_IndexFunc_api_Identity_api_Identity_at17_l1
      rw [if_neg (by simp [len])]
    rw [iter_step (body := fun s : T_api_Address × Int => slices_IndexFunc_api_Identity_api_Identity_at17_l1 (F' + 1 + 1) [id] s.1 s.2) (s := (rpa p h, 0)) (s' := (rpa p h, 1)) s1, iter_stop (body := fun s : T_api_Address × Int => slices_IndexFunc_api_Identity_api_Identity_at17_l1 (F' + 1 + 1) [id] s.1 s.2) (s := (rpa p h, 1)) (o := .inl (rpa p h)) s2]
    rfl
theorem privacy_law (F : Nat) (hF : 1000000020 < F) (a b t u q : Int) : wirelesstop_TopPrivacy F a b t u q = some true := by
  unfold wirelesstop_TopPrivacy
  rw [show wirelesstop_livesWorld F = some true from rfl, Option.bind_some, if_neg (by simp)]
  by_cases hc : a = 0 ∨ b = 0 ∨ q < 1 ∨ t < 0 ∨ u < t
  · rw [if_pos (by simp; omega)]
  rw [if_neg (by simp; omega)]
  have ha : a ≠ 0 := by omega
  obtain ⟨e1, p1, h1, k1, k2, k3, k4, k5, k6, k7, k8⟩ := current_ok F ha t q hF (by omega) (by omega)
  obtain ⟨e2, p2, h2, m1, m2, m3, m4, m5, m6, m7, m8⟩ := current_ok F ha u q hF (by omega) (by omega)
  have r1 := resolves_ok F ha k4 k5 k6 k7 k8
  have r2 := resolves_ok F ha m4 m5 m6 m7 m8
  rw [k3, Option.bind_some, m3, Option.bind_some, r1, Option.bind_some, if_neg (by simp), r2, Option.bind_some, Option.bind_some, if_neg (by simp), find_one F _ m4 m5 m7 m8 true rfl r2 (by omega), Option.bind_some, Option.bind_some, if_neg (by simp), k1, Option.bind_some, m1, Option.bind_some]
  have j1 : ∀ z : Bool, z = false → wirelesstop_TopPrivacy_j1 F a t q (rpa p1 h1) z = some true := fun z hz => by
    subst hz
    unfold wirelesstop_TopPrivacy_j1 wirelesstop_TopPrivacy_j2 privacy_Current
    rw [if_neg (by simp), find_one F _ k4 k5 k7 k8 false rfl (resolves_none F) (by omega), Option.bind_some, if_pos (by simp), if_pos (by simp), Option.bind_some]
    simp
  by_cases he : e1 = e2
  · rw [if_pos (by simpa using he)]
    subst he
    rw [k2] at m2
    injection m2 with m2
    exact j1 _ (by rw [← m2]; simp)
  · rw [if_neg (by simpa using he)]
    exact j1 _ rfl
end V
end Go.Proofs.YtladkmnfmpojiaaGreatDoor
namespace Go.Proofs.YtladkmnfmpojiaaGreatDoor
namespace V
theorem privacy_top (a b t u q : Int) : wirelesstop_TopPrivacy FF a b t u q = some true := privacy_law FF (by decide) a b t u q
end V
end Go.Proofs.YtladkmnfmpojiaaGreatDoor
