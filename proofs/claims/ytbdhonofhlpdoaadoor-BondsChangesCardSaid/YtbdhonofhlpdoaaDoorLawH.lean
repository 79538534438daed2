/-
  The hash of a key: of the program, and of the reference.
-/
import Derived.Test.YtbdhonofhlpdoaaDoorLawA
import Derived.Test.YtbdhonofhlpdoaaDoorLawO
namespace Go.Proofs.YtbdhonofhlpdoaaDoor
namespace V
theorem iter_sim {S1 S2 O1 O2 : Type} {b1 : S1 → Option (Out S1 O1)} {b2 : S2 → Option (Out S2 O2)} (R : S1 → S2 → Prop) (Q : O1 → O2 → Prop) (m : S1 → Nat)
    (h : ∀ s1 s2, R s1 s2 → (∃ t1 t2, b1 s1 = some (.next t1) ∧ b2 s2 = some (.next t2) ∧ R t1 t2 ∧ m t1 < m s1) ∨ ∃ o1 o2, b1 s1 = some (.done o1) ∧ b2 s2 = some (.done o2) ∧ Q o1 o2) :
    ∀ (F : Nat) (s1 : S1) (s2 : S2), R s1 s2 → m s1 < F → ∃ o1 o2, iter b1 F s1 = some o1 ∧ iter b2 F s2 = some o2 ∧ Q o1 o2
  | 0, _, _, _, hF => by omega
  | F + 1, s1, s2, hR, hF => by
    rcases h s1 s2 hR with ⟨t1, t2, h1, h2, hR', hm⟩ | ⟨o1, o2, h1, h2, hq⟩
    · obtain ⟨o1, o2, h3, h4, hq⟩ := iter_sim R Q m h F t1 t2 hR' (by omega)
      exact ⟨o1, o2, by rw [iter_step h1, h3], by rw [iter_step h2, h4], hq⟩
    · exact ⟨o1, o2, iter_stop h1, iter_stop h2, hq⟩
theorem ior64 (a b : Nat) (ha : a < 2 ^ 64) (hb : b < 2 ^ 64) : ior .u64 (a : Int) (b : Int) = ((a ||| b : Nat) : Int) := by
  have h := Nat.or_lt_two_pow ha hb
  unfold ior
  have e : (BitVec.ofInt IntKind.u64.bits (a : Int) ||| BitVec.ofInt IntKind.u64.bits (b : Int)).toNat = a ||| b := by
    rw [BitVec.toNat_or]
    show (BitVec.ofInt 64 (a : Int)).toNat ||| (BitVec.ofInt 64 (b : Int)).toNat = _
    rw [ofInt_nat 64 a ha, ofInt_nat 64 b hb]
  rw [e, wrap_u64, wu64_id (by omega) (by omega)]
theorem shrp_eq (x : Int) (n : Nat) : shrp x n = x / 2 ^ n := by
  unfold shrp
  rw [Int.fdiv_eq_ediv_of_nonneg _ (Int.le_of_lt (Int.pow_pos (by decide)))]
theorem ior_num {b : List Int} {i : Nat} (hb : ∀ x ∈ b, Byte x) (hi : i < 8) (x : Int) (hx : b[i]? = some x) : ior .u64 (num (b.take i)) (x * 256 ^ i) = num (b.take (i + 1)) := by
  have hl : (b.take i).length = i := by
    have := (List.getElem?_eq_some_iff.1 hx).1
    simp; omega
  have ht : ∀ x ∈ b.take i, Byte x := fun x hx => hb x (List.mem_of_mem_take hx)
  have h1 := num_lt ht
  rw [hl] at h1
  rw [ior_add _ _ i hi (num_nonneg ht) h1 (hb x (List.mem_of_getElem? hx)), List.take_add_one, hx, num_append, hl]
  simp only [Option.toList_some, num]
  rw [Int.mul_zero, Int.add_zero, Int.mul_comm]
theorem join_three (F : Nat) (a b c : List Int) (hF : 3 < F) (h : a.length + b.length + c.length ≤ 140737488355328) : octets_Join F [a, b, c] = some (a ++ b ++ c) := by
  unfold octets_Join
  obtain ⟨F', rfl⟩ : ∃ F', F = F' + 1 + 1 + 1 + 1 := ⟨F - 4, by omega⟩
  have h1 : octets_Join_l1 (F' + 1 + 1 + 1 + 1) [a, b, c] [] 0 = some (.next (a, 1)) := by simpa using join_step (F' + 1 + 1 + 1 + 1) [a, b, c] [] 0 a rfl (by simp; omega) (by simp)
  have h2 : octets_Join_l1 (F' + 1 + 1 + 1 + 1) [a, b, c] a 1 = some (.next (a ++ b, 2)) := by simpa using join_step (F' + 1 + 1 + 1 + 1) [a, b, c] a 1 b rfl (by omega) (by simp)
  have h3 : octets_Join_l1 (F' + 1 + 1 + 1 + 1) [a, b, c] (a ++ b) 2 = some (.next (a ++ b ++ c, 3)) := by simpa using join_step (F' + 1 + 1 + 1 + 1) [a, b, c] (a ++ b) 2 c rfl (by rw [List.length_append]; omega) (by simp)
  rw [iter_step h1, iter_step h2, iter_step h3, iter_stop (o := a ++ b ++ c) (by unfold octets_Join_l1; rw [if_neg (by simp [len])])]
  rfl
def I32 (x : Int) : Prop := 0 ≤ x ∧ x < 4294967296
theorem ixor32_rng (a b : Int) : I32 (ixor .u32 a b) := by
  unfold ixor I32
  rw [wrap_u32]
  unfold wu32
  omega
theorem ixor64_rng (a b : Int) : I64 (ixor .u64 a b) := by
  unfold ixor I64
  rw [wrap_u64]
  unfold wu64
  omega
def rot (x : Int) (n m : Nat) : Int := ior .u32 (IntKind.u32.wrap (x * 2 ^ n)) (x.fdiv (2 ^ m))
theorem ishl_lit (x : Int) (n : Nat) (hn : n ≤ 32) : ishl .u32 x (n : Int) = some (IntKind.u32.wrap (x * 2 ^ n)) := by
  unfold ishl
  rw [if_neg (by omega)]
  have : min (n : Int).toNat IntKind.u32.bits = n := by
    show min (n : Int).toNat 32 = n
    omega
  rw [this]
theorem ishr_lit (k : IntKind) (x : Int) (n : Nat) (hn : n ≤ k.bits) : ishr k x (n : Int) = some (x.fdiv (2 ^ n)) := by
  unfold ishr
  rw [if_neg (by omega)]
  have : min (n : Int).toNat k.bits = n := by omega
  rw [this]
theorem rot_u (F : Nat) (x : Int) (n : Nat) (h1 : 1 ≤ n) (h2 : n ≤ 31) (e : iand .u64 (wu64 (n : Int)) 31 = (n : Int)) : math_bits_RotateLeft32 F x (n : Int) = some (rot x n (32 - n)) := by
  unfold math_bits_RotateLeft32
  rw [e, show wu64 (32 - (n : Int)) = ((32 - n : Nat) : Int) from by rw [wu64_id (by omega) (by omega)]; omega, ishl_lit x n (by omega), ishr_lit .u32 x (32 - n) (by show 32 - n ≤ 32; omega), Option.bind_some, Option.bind_some]
  rfl
theorem rot_r (F : Nat) (x : Int) (n : Nat) (h1 : 1 ≤ n) (h2 : n ≤ 31) : wirelessref05_Turn F x (n : Int) = some (rot x n (32 - n)) := by
  unfold wirelessref05_Turn
  rw [show w64 (32 - (n : Int)) = ((32 - n : Nat) : Int) from by rw [w64_id (by omega) (by omega)]; omega, ishl_lit x n (by omega), ishr_lit .u32 x (32 - n) (by show 32 - n ≤ 32; omega), Option.bind_some, Option.bind_some]
  rfl
def rnd (lo h : Int) : Int := ixor .u32 (wu32 (rot (wu32 (h + lo)) 7 25 * 2654435761)) (rot lo 16 16)
/-- A key, turned to the left. -/
def trn (k : Int) (t : Nat) : Int := ior .u64 (IntKind.u64.wrap (k * 2 ^ t)) (k.fdiv (2 ^ (64 - t)))
def low (k : Int) (i : Nat) : Int := wu32 (trn k (11 * i % 64) % 4294967296)
theorem ior64_rng (a b : Int) : I64 (ior .u64 a b) := by
  unfold ior I64
  rw [wrap_u64]
  unfold wu64
  omega
theorem trn_zero {k : Int} (h : I64 k) : trn k 0 = k := by
  obtain ⟨h0, h1⟩ := h
  unfold trn
  have e1 : IntKind.u64.wrap (k * 2 ^ 0) = k := by
    rw [wrap_u64, Int.pow_zero, Int.mul_one, wu64_id h0 h1]
  have e2 : k.fdiv (2 ^ (64 - 0)) = 0 := by
    rw [Int.fdiv_eq_ediv_of_nonneg _ (by decide), show (2 : Int) ^ (64 - 0) = 18446744073709551616 from rfl, Int.ediv_eq_zero_of_lt h0 h1]
  rw [e1, e2]
  obtain ⟨a, rfl⟩ := Int.eq_ofNat_of_zero_le h0
  have := ior64 a 0 (by omega) (by decide)
  rw [Nat.or_zero] at this
  exact this
theorem ishl64_lit (x : Int) (n : Nat) (hn : n ≤ 64) : ishl .u64 x (n : Int) = some (IntKind.u64.wrap (x * 2 ^ n)) := by
  unfold ishl
  rw [if_neg (by omega)]
  have : min (n : Int).toNat IntKind.u64.bits = n := by
    show min (n : Int).toNat 64 = n
    omega
  rw [this]
theorem trn_u (F : Nat) (k : Int) (t : Nat) (ht : t < 64) : math_bits_RotateLeft64 F k (t : Int) = some (trn k t) := by
  unfold math_bits_RotateLeft64
  have e : iand .u64 (wu64 (t : Int)) 63 = (t : Int) := by
    have h1 := iand_mask (t : Int) 6 63 (by decide) (by decide) (by omega) (by omega)
    rw [show ((63 : Nat) : Int) = 63 from rfl] at h1
    rw [wu64_id (by omega) (by omega), h1]
    omega
  rw [e, show wu64 (64 - (t : Int)) = ((64 - t : Nat) : Int) from by rw [wu64_id (by omega) (by omega)]; omega, ishl64_lit k t (by omega), ishr_lit .u64 k (64 - t) (by show 64 - t ≤ 64; omega), Option.bind_some, Option.bind_some]
  rfl
theorem iand_mod (x : Int) (h0 : 0 ≤ x) (h1 : x < 18446744073709551616) : iand .u64 x 4294967295 = x % 4294967296 := by
  obtain ⟨a, rfl⟩ := Int.eq_ofNat_of_zero_le h0
  unfold iand
  have e : (BitVec.ofInt IntKind.u64.bits (a : Int) &&& BitVec.ofInt IntKind.u64.bits 4294967295).toNat = a % 4294967296 := by
    rw [BitVec.toNat_and]
    show (BitVec.ofInt 64 (a : Int)).toNat &&& (BitVec.ofInt 64 ((4294967295 : Nat) : Int)).toNat = _
    rw [ofInt_nat 64 a (by omega), ofInt_nat 64 4294967295 (by decide), show (4294967295 : Nat) = 2 ^ 32 - 1 from by decide, Nat.and_two_pow_sub_one_eq_mod]
  rw [e, wrap_u64, wu64_id (by omega) (by omega)]
  omega
theorem slow (F : Nat) (x : Int) : serial_Low F x 32 = some (iand .u64 x 4294967295) := by
  unfold serial_Low
  rw [if_neg (by decide), if_neg (by decide), show ishl .u64 1 32 = some 4294967296 from by kernel_rfl, Option.bind_some]
  rfl
theorem round_u (F : Nat) (k : Int) (i : Nat) (h1 : i < 8) (h : Int) : block_Round F k i h = some (rnd (low k i) h) := by
  unfold block_Round
  have e0 : remp (w64 (11 * (remp (i : Int) 64))) 64 = ((11 * i % 64 : Nat) : Int) := by
    unfold remp
    rw [Int.tmod_eq_emod_of_nonneg (a := (i : Int)) (by omega), w64_id (by omega) (by omega), Int.tmod_eq_emod_of_nonneg (by omega)]
    omega
  have hr := ior64_rng (IntKind.u64.wrap (k * 2 ^ (11 * i % 64))) (k.fdiv (2 ^ (64 - (11 * i % 64))))
  rw [e0, trn_u F k _ (by omega), Option.bind_some, slow, Option.bind_some, iand_mod (trn k (11 * i % 64)) hr.1 hr.2]
  have r1 := rot_u F (wu32 (h + low k i)) 7 (by decide) (by decide) (by kernel_rfl)
  have r2 := rot_u F (low k i) 16 (by decide) (by decide) (by kernel_rfl)
  rw [show ((7 : Nat) : Int) = 7 from rfl] at r1
  rw [show ((16 : Nat) : Int) = 16 from rfl] at r2
  show (math_bits_RotateLeft32 F (wu32 (h + low k i)) 7).bind (fun x_6 => (math_bits_RotateLeft32 F (low k i) 16).bind fun x_7 => some (ixor .u32 (wu32 (x_6 * 2654435761)) x_7)) = _
  rw [r1, r2, Option.bind_some, Option.bind_some]
  rfl
theorem low_r (F : Nat) {k : Int} (hk : I64 k) (i : Nat) (h1 : i < 8) : wirelessref05_Low F k i = some (low k i) := by
  obtain ⟨k0, k1⟩ := hk
  unfold wirelessref05_Low wirelessref05_Low_j1 low
  have e0 : remp (w64 ((w64 ((remp (i : Int) 64) + 64)) * 11)) 64 = ((11 * i % 64 : Nat) : Int) := by
    unfold remp
    rw [Int.tmod_eq_emod_of_nonneg (a := (i : Int)) (by omega), w64_id (x := (i : Int) % 64 + 64) (by omega) (by omega), w64_id (by omega) (by omega), Int.tmod_eq_emod_of_nonneg (by omega)]
    omega
  rw [e0]
  by_cases hi : i = 0
  · subst hi
    rw [if_neg (by decide), show 11 * 0 % 64 = 0 from rfl, trn_zero ⟨k0, k1⟩]
    unfold remp
    rw [Int.tmod_eq_emod_of_nonneg k0]
  · have ht : 0 < 11 * i % 64 := by omega
    have hlt : 11 * i % 64 < 64 := by omega
    generalize 11 * i % 64 = t at ht hlt
    have hr := ior64_rng (IntKind.u64.wrap (k * 2 ^ t)) (k.fdiv (2 ^ (64 - t)))
    rw [if_pos (by simpa using ht), ishl64_lit k t (by omega), Option.bind_some, show w64 (64 - (t : Int)) = ((64 - t : Nat) : Int) from by rw [w64_id (by omega) (by omega)]; omega, ishr_lit .u64 k (64 - t) (by show 64 - t ≤ 64; omega), Option.bind_some]
    unfold remp
    rw [Int.tmod_eq_emod_of_nonneg hr.1]
    rfl
theorem round_r (F : Nat) {k : Int} (hk : I64 k) (i : Nat) (h1 : i < 8) (h : Int) : wirelessref05_Round F k i h = some (rnd (low k i) h) := by
  unfold wirelessref05_Round
  rw [low_r F hk i h1, Option.bind_some]
  have r1 := rot_r F (wu32 (h + low k i)) 7 (by decide) (by decide)
  have r2 := rot_r F (low k i) 16 (by decide) (by decide)
  rw [show ((7 : Nat) : Int) = 7 from rfl] at r1
  rw [show ((16 : Nat) : Int) = 16 from rfl] at r2
  rw [r1, r2, Option.bind_some, Option.bind_some]
  rfl
def mx (k : Int) : Nat → Int × Int → Int × Int
  | 0, s => s
  | n + 1, s => ((mx k n s).2, ixor .u32 (mx k n s).1 (rnd (low k n) (mx k n s).2))
theorem mx_rng (k : Int) : ∀ (n : Nat) (s : Int × Int), I32 s.1 → I32 s.2 → I32 (mx k n s).1 ∧ I32 (mx k n s).2
  | 0, _, h1, h2 => ⟨h1, h2⟩
  | n + 1, s, h1, h2 => ⟨(mx_rng k n s h1 h2).2, ixor32_rng _ _⟩
def mixk (k x : Int) : Int := (mx k 8 (x / 4294967296, x % 4294967296)).1 * 4294967296 + (mx k 8 (x / 4294967296, x % 4294967296)).2
theorem mixk_rng (k : Int) {x : Int} (h : I64 x) : I64 (mixk k x) := by
  obtain ⟨h0, h1⟩ := h
  obtain ⟨⟨a1, a2⟩, b1, b2⟩ := mx_rng k 8 (x / 4294967296, x % 4294967296) ⟨by simp only; omega, by simp only; omega⟩ ⟨by simp only; omega, by simp only; omega⟩
  unfold mixk I64
  omega
theorem split_ok (F : Nat) {x : Int} (h : I64 x) : block_split F x = some (x / 4294967296, x % 4294967296) := by
  obtain ⟨h0, h1⟩ := h
  have e1 : ∀ x, serial_Low F x 32 = some (iand .u64 x 4294967295) := by
    intro x
    unfold serial_Low
    rw [if_neg (by decide), if_neg (by decide), show ishl .u64 1 32 = some 4294967296 from by kernel_rfl, Option.bind_some]
    rfl
  unfold block_split
  rw [e1, Option.bind_some, iand_mod x h0 h1, shrp_eq, show (2 : Int) ^ 32 = 4294967296 from rfl, wu32_id (by omega) (by omega), wu32_id (by omega) (by omega)]
theorem mix_iter (F : Nat) (k : Int) (b : Int × Int × Int → Option (Out (Int × Int × Int) (Int × Int))) (s : Int × Int) (hF : 8 < F)
    (h : ∀ (x y : Int) (i : Nat), i < 8 → b (x, y, (i : Int)) = some (.next (y, ixor .u32 x (rnd (low k i) y), ((i + 1 : Nat) : Int)))) (hd : ∀ x y : Int, b (x, y, 8) = some (.done (x, y))) : iter b F (s.1, s.2, 0) = some (mx k 8 s) := by
  have := iter_count (body := b) (fun i => ((mx k i s).1, (mx k i s).2, (i : Int))) 8 (mx k 8 s) (fun i hi => h _ _ i hi) (hd _ _) F 0 (by omega) (by omega)
  exact this
theorem mix_u (F : Nat) (k : Int) {x : Int} (h : I64 x) (hF : 8 < F) : block_Mix F k x = some (mixk k x) := by
  have hm := mx_rng k 8 (x / 4294967296, x % 4294967296) (by obtain ⟨h0, h1⟩ := h; exact ⟨by simp only; omega, by simp only; omega⟩) (by obtain ⟨h0, h1⟩ := h; exact ⟨by simp only; omega, by simp only; omega⟩)
  unfold block_Mix
  rw [split_ok F h, Option.bind_some]
  have := mix_iter F k (fun s => block_Mix_l1 F k s.1 s.2.1 s.2.2) (x / 4294967296, x % 4294967296) hF (by
    intro x y i hi
    show block_Mix_l1 F k x y (i : Int) = _
    unfold block_Mix_l1
    rw [if_pos (dt (by omega)), round_u F k i (by omega), Option.bind_some, w64_nat i (by omega)]) (by
    intro x y
    show block_Mix_l1 F k x y 8 = _
    unfold block_Mix_l1
    rw [if_neg (by decide)])
  rw [this, Option.bind_some]
  unfold block_Mix_j1 block_halves_join mixk
  generalize mx k 8 (x / 4294967296, x % 4294967296) = t at hm
  obtain ⟨⟨a0, a1⟩, b0, b1⟩ := hm
  obtain ⟨a, b⟩ := t
  simp only at a0 a1 b0 b1 ⊢
  obtain ⟨a, rfl⟩ := Int.eq_ofNat_of_zero_le a0
  obtain ⟨b, rfl⟩ := Int.eq_ofNat_of_zero_le b0
  have e : shlp .u64 (wu64 (a : Int)) 32 = ((a * 2 ^ 32 : Nat) : Int) := by
    unfold shlp
    rw [wu64_id (by omega) (by omega), wrap_u64, show (a : Int) * 2 ^ 32 = ((a * 2 ^ 32 : Nat) : Int) from by rw [Int.natCast_mul]; rfl, wu64_id (by omega) (by omega)]
  rw [Option.bind_some, e, wu64_id (x := (b : Int)) (by omega) (by omega), ior64 _ _ (by omega) (by omega), Nat.or_comm, nat_or_add _ _ 32 (by omega)]
  congr 1
  omega
theorem mix_r (F : Nat) {k : Int} (hk0 : I64 k) {x : Int} (h : I64 x) (hF : 8 < F) : wirelessref05_Mix F k x = some (mixk k x) := by
  have hm := mx_rng k 8 (x / 4294967296, x % 4294967296) (by obtain ⟨h0, h1⟩ := h; exact ⟨by simp only; omega, by simp only; omega⟩) (by obtain ⟨h0, h1⟩ := h; exact ⟨by simp only; omega, by simp only; omega⟩)
  obtain ⟨h0, h1⟩ := h
  have e1 : wu32 (quop .u64 x 4294967296) = x / 4294967296 := by
    unfold quop
    rw [Int.tdiv_eq_ediv_of_nonneg h0, wrap_u64, wu64_id (by omega) (by omega), wu32_id (by omega) (by omega)]
  have e2 : wu32 (remp x 4294967296) = x % 4294967296 := by
    unfold remp
    rw [Int.tmod_eq_emod_of_nonneg h0, wu32_id (by omega) (by omega)]
  unfold wirelessref05_Mix
  rw [e1, e2]
  have := mix_iter F k (fun s => wirelessref05_Mix_l1 F k s.1 s.2.1 s.2.2) (x / 4294967296, x % 4294967296) hF (by
    intro x y i hi
    show wirelessref05_Mix_l1 F k x y (i : Int) = _
    unfold wirelessref05_Mix_l1
    rw [if_pos (dt (by omega)), round_r F hk0 i (by omega), Option.bind_some, w64_nat i (by omega)]) (by
    intro x y
    show wirelessref05_Mix_l1 F k x y 8 = _
    unfold wirelessref05_Mix_l1
    rw [if_neg (by decide)])
  rw [this, Option.bind_some]
  unfold wirelessref05_Mix_j1 mixk
  generalize mx k 8 (x / 4294967296, x % 4294967296) = t at hm
  obtain ⟨⟨a0, a1⟩, b0, b1⟩ := hm
  rw [wu64_id (x := t.1) (by omega) (by omega), wu64_id (x := t.1 * 4294967296) (by omega) (by omega), wu64_id (x := t.2) (by omega) (by omega), wu64_id (by omega) (by omega)]
theorem chunk_u (F : Nat) (l : List Int) (hb : ∀ x ∈ l, Byte x) (hl : l.length ≤ 8) (hF : 8 < F) : iter (fun s : Int × Int => mac_Tag_it_l2 F l s.1 s.2) F (0, 0) = some (num l) := by
  have := iter_count (body := fun s : Int × Int => mac_Tag_it_l2 F l s.1 s.2) (fun i => (num (l.take i), (i : Int))) l.length (num l) (by
    intro i hi
    have hx : l[i]? = some l[i] := List.getElem?_eq_getElem hi
    show mac_Tag_it_l2 F l (num (l.take i)) (i : Int) = _
    unfold mac_Tag_it_l2
    rw [if_pos (dt (show (i : Int) < len l by rw [len_nat]; omega)), idx_nat, hx, Option.bind_some, shl_bytes (hb _ (List.mem_of_getElem? hx)) i (by omega), Option.bind_some, w64_nat i (by omega), ior_num hb (by omega) _ hx]) (by
    show mac_Tag_it_l2 F l _ (l.length : Int) = _
    unfold mac_Tag_it_l2
    rw [if_neg (df (by rw [len_nat]; omega)), List.take_length]) F 0 (by omega) (by omega)
  exact this
theorem tag_same (F : Nat) {k : Int} (hk0 : I64 k) (b : List Int) (hb : ∀ x ∈ b, Byte x) (hl : b.length ≤ 1000000000) (hF : 1000000020 < F) : ∃ x, mac_Tag F k b = some x ∧ wirelessref06_Tag F k b = some x ∧ I64 x := by
  have h0 : I64 (wu64 (len b)) := by rw [len_nat, wu64_id (by omega) (by omega)]; exact ⟨by omega, by omega⟩
  obtain ⟨o1, o2, h1, h2, h3, h4⟩ := iter_sim (b1 := fun s : Int × Int => mac_Tag_it_l1 F k b s.1 s.2) (b2 := fun s : Int × Int => wirelessref06_Tag_l1 F k b s.1 s.2)
    (fun s t => s = t ∧ I64 s.1 ∧ ∃ i : Nat, s.2 = (i : Int) ∧ i ≤ b.length + 8) (fun a b => a = b ∧ I64 a) (fun s => b.length + 8 - s.2.toNat) (by
    rintro ⟨x, at_⟩ _ ⟨rfl, hx, i, hi, hil⟩
    simp only at hx hi
    subst hi
    show (∃ t1 t2, mac_Tag_it_l1 F k b x (i : Int) = some (.next t1) ∧ wirelessref06_Tag_l1 F k b x (i : Int) = some (.next t2) ∧ _) ∨ ∃ o1 o2, mac_Tag_it_l1 F k b x (i : Int) = some (.done o1) ∧ wirelessref06_Tag_l1 F k b x (i : Int) = some (.done o2) ∧ _
    unfold mac_Tag_it_l1 wirelessref06_Tag_l1
    by_cases hin : i < b.length
    · have hmin : imin (w64 ((i : Int) + 8)) (len b) = ((min (i + 8) b.length : Nat) : Int) := by
        rw [w64_id (by omega) (by omega), len_nat]
        unfold imin
        by_cases h : (b.length : Int) < (i : Int) + 8
        · rw [if_pos h]; omega
        · rw [if_neg h]; omega
      have hcb : ∀ y ∈ (b.take (min (i + 8) b.length)).drop i, Byte y := fun y hy => hb y (List.mem_of_mem_take (List.mem_of_mem_drop hy))
      have hcl : ((b.take (min (i + 8) b.length)).drop i).length ≤ 8 := by rw [List.length_drop, List.length_take]; omega
      rw [if_pos (dt (show (i : Int) < len b by rw [len_nat]; omega)), if_pos (dt (show (i : Int) < len b by rw [len_nat]; omega)), hmin, sub_nat b i _ (by omega) (by omega), Option.bind_some, Option.bind_some, chunk_u F _ hcb hcl (by omega), chunk_r F _ hcb hcl (by omega), Option.bind_some, Option.bind_some]
      unfold mac_Tag_it_j2 mac_Tag_b
      have hr := ixor64_rng x (num ((b.take (min (i + 8) b.length)).drop i))
      rw [mix_u F k hr (by omega), mix_r F hk0 hr (by omega), Option.bind_some, Option.bind_some, Option.bind_some]
      unfold mac_Tag_it_j1
      refine .inl ⟨_, _, rfl, rfl, ⟨rfl, mixk_rng k hr, i + 8, ?_, by omega⟩, ?_⟩
      · simp only
        rw [w64_id (by omega) (by omega)]
        omega
      · simp only
        rw [w64_id (by omega) (by omega)]
        omega
    · rw [if_neg (df (show ¬ (i : Int) < len b by rw [len_nat]; omega)), if_neg (df (show ¬ (i : Int) < len b by rw [len_nat]; omega))]
      exact .inr ⟨_, _, rfl, rfl, rfl, hx⟩) F (mixk k (wu64 (len b)), 0) (mixk k (wu64 (len b)), 0) ⟨rfl, mixk_rng k h0, 0, rfl, by omega⟩ (by simp only; omega)
  subst h3
  refine ⟨o1, ?_, ?_, h4⟩
  · unfold mac_Tag mac_Tag_it
    rw [mix_u F k h0 (by omega), Option.bind_some, h1]
    rfl
  · unfold wirelessref06_Tag
    rw [mix_r F hk0 h0 (by omega), Option.bind_some, h2]
    rfl
theorem rnum8_ok (F : Nat) (n : Int) (hF : 9 < F) (h : I64 n) : wirelessref02_Num F 8 n = some (leb 8 n) := rnum_ok F 8 n hF (by decide) h
theorem derive_same (F : Nat) {k : Int} (hk0 : I64 k) (x : Int) (hx : I64 x) (hF : 1000000020 < F) : ∃ y, mac_Derive F k [114, 112, 97] [x] = some y ∧ wirelessref06_Derive F k [114, 112, 97] [x] = some y ∧ I64 y := by
  obtain ⟨y, h1, h2, h3⟩ := tag_same F hk0 ([114, 112, 97, 0] ++ leb 8 x) (by
    intro z hz
    rcases List.mem_append.1 hz with hz | hz
    · simp at hz
      unfold Byte
      omega
    · exact leb_byte _ _ z hz) (by rw [List.length_append, leb_length]; simp) hF
  refine ⟨y, ?_, ?_, h3⟩
  · unfold mac_Derive mac_bytes
    obtain ⟨F', rfl⟩ : ∃ F', F = F' + 1 + 1 := ⟨F - 2, by omega⟩
    have s1 : mac_bytes_l1 (F' + 1 + 1) [x] [] 0 = some (.next ([T_api_Field.mk 8 x], 1)) := by
      unfold mac_bytes_l1
      rw [if_pos (by simp [len]), show idx [x] 0 = some x from rfl, Option.bind_some, app_small (by simp) (by omega), Option.bind_some]
      rfl
    have s2 : mac_bytes_l1 (F' + 1 + 1) [x] [T_api_Field.mk 8 x] 1 = some (.done [T_api_Field.mk 8 x]) := by
      unfold mac_bytes_l1
      rw [if_neg (by simp [len])]
    rw [app_cat (by simp), Option.bind_some, iter_step (body := fun s : List T_api_Field × Int => mac_bytes_l1 (F' + 1 + 1) [x] s.1 s.2) s1, iter_stop (body := fun s : List T_api_Field × Int => mac_bytes_l1 (F' + 1 + 1) [x] s.1 s.2) s2, Option.bind_some]
    unfold mac_bytes_j1
    rw [oput_ok (F' + 1 + 1) [T_api_Field.mk 8 x] (by
      intro f hf
      simp at hf
      subst hf
      exact ⟨by simp, by simp, hx.1, hx.2, hx.2⟩) (by simp) (by simp; omega), Option.bind_some, Option.bind_some]
    have hp : putAll [T_api_Field.mk 8 x] = leb 8 x := by simp [putAll]
    rw [hp, join_three _ _ _ _ (by omega) (by rw [leb_length]; simp), Option.bind_some]
    show (mac_Tag (F' + 1 + 1) k ([114, 112, 97, 0] ++ leb 8 x)).bind _ = _
    rw [h1]
    rfl
  · unfold wirelessref06_Derive
    obtain ⟨F', rfl⟩ : ∃ F', F = F' + 1 + 1 := ⟨F - 2, by omega⟩
    have s1 : wirelessref06_Derive_l1 (F' + 1 + 1) [x] [114, 112, 97, 0] 0 = some (.next ([114, 112, 97, 0] ++ leb 8 x, 1)) := by
      unfold wirelessref06_Derive_l1
      rw [if_pos (by simp [len]), show idx [x] 0 = some x from rfl, Option.bind_some, rnum8_ok _ x (by omega) hx, Option.bind_some, app_cat (by rw [leb_length]; simp), Option.bind_some]
      rfl
    have s2 : wirelessref06_Derive_l1 (F' + 1 + 1) [x] ([114, 112, 97, 0] ++ leb 8 x) 1 = some (.done ([114, 112, 97, 0] ++ leb 8 x)) := by
      unfold wirelessref06_Derive_l1
      rw [if_neg (by simp [len])]
    rw [app_cat (by simp), Option.bind_some, app_cat (by simp), Option.bind_some]
    show (iter (fun s : List Int × Int => wirelessref06_Derive_l1 (F' + 1 + 1) [x] s.1 s.2) (F' + 1 + 1) ([114, 112, 97, 0], 0)).bind _ = _
    rw [iter_step (body := fun s : List Int × Int => wirelessref06_Derive_l1 (F' + 1 + 1) [x] s.1 s.2) s1, iter_stop (body := fun s : List Int × Int => wirelessref06_Derive_l1 (F' + 1 + 1) [x] s.1 s.2) s2, Option.bind_some]
    unfold wirelessref06_Derive_j1
    rw [h2]
    rfl
end V
end Go.Proofs.YtbdhonofhlpdoaaDoor
