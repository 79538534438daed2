/-
  The hash of a database: of the program, and of the reference.
-/
import Derived.Test.YtchlimkophmjlaaLawR
namespace Go.Proofs.Ytchlimkophmjlaa
namespace V
/-! ### Fields -/
theorem shr_bytes {v : Int} (i : Nat) (hi : i ≤ 8) (_h0 : 0 ≤ v) : ishr .u64 v (w64 (8 * i)) = some (v / 256 ^ i) := by
  rw [w64_id (by omega) (by omega)]
  unfold ishr
  rw [if_neg (by omega)]
  have h1 : min (8 * (i : Int)).toNat IntKind.u64.bits = 8 * i := by
    show min (8 * (i : Int)).toNat 64 = 8 * i
    omega
  rw [h1, show (2 : Int) ^ (8 * i) = 256 ^ i from by rw [Int.pow_mul]; rfl, Int.fdiv_eq_ediv_of_nonneg _ (Int.le_of_lt (pow_pos256 i))]
structure FieldOk (f : T_api_Field) : Prop where
  s0 : 1 ≤ f.Size
  s1 : f.Size ≤ 8
  v0 : 0 ≤ f.Value
  v1 : f.Value < 18446744073709551616
  v2 : f.Value < 256 ^ f.Size.toNat
theorem oput_in (F : Nat) (x : T_api_Field) (hx : FieldOk x) (l : List Int) (hl : l.length ≤ 1000000) (hF : 9 < F) : iter (fun s => octets_Put_l2 F x s.1 s.2) F (l, 0) = some (l ++ leb x.Size.toNat x.Value) := by
  obtain ⟨s0, s1, v0, v1, v2⟩ := hx
  have := iter_count (body := fun s : List Int × Int => octets_Put_l2 F x s.1 s.2) (fun i => (l ++ leb i x.Value, (i : Int))) x.Size.toNat (l ++ leb x.Size.toNat x.Value) (by
    intro i hi
    show octets_Put_l2 F x (l ++ leb i x.Value) i = _
    unfold octets_Put_l2
    rw [if_pos (by simp; omega), shr_bytes i (by omega) v0]
    simp only [Option.bind_some]
    rw [app_cat (by simp [leb_length]; omega)]
    simp only [Option.bind_some]
    rw [w64_nat i (by omega), leb_snoc, List.append_assoc]
    rfl) (by
    show octets_Put_l2 F x _ _ = _
    unfold octets_Put_l2
    rw [if_neg (by simp; omega)]) F 0 (by omega) (by omega)
  simpa [leb] using this
def putAll (fs : List T_api_Field) : List Int := (fs.map fun f => leb f.Size.toNat f.Value).flatten
theorem putAll_len : ∀ {fs : List T_api_Field}, (∀ f ∈ fs, FieldOk f) → (putAll fs).length ≤ 8 * fs.length
  | [], _ => by simp [putAll]
  | f :: fs, h => by
    have h1 := h f (by simp)
    have h2 := putAll_len (fs := fs) fun g hg => h g (by simp [hg])
    obtain ⟨s0, s1, _⟩ := h1
    simp only [putAll, List.map_cons, List.flatten_cons, List.length_append, leb_length, List.length_cons] at h2 ⊢
    omega
theorem oput_ok (F : Nat) (fs : List T_api_Field) (h : ∀ f ∈ fs, FieldOk f) (hn : fs.length ≤ 1000) (hF : fs.length + 9 < F) : octets_Put F fs = some (putAll fs, 0) := by
  unfold octets_Put
  have := iter_count (body := fun s : List Int × Int => octets_Put_l1 F fs s.1 s.2) (fun i => (putAll (fs.take i), (i : Int))) fs.length (.inl (putAll fs)) (by
    intro i hi
    have hx : fs[i]? = some fs[i] := List.getElem?_eq_getElem hi
    have hf := h fs[i] (List.getElem_mem hi)
    have hlen := putAll_len (fs := fs.take i) (fun f hf => h f (List.mem_of_mem_take hf))
    have htl : (fs.take i).length ≤ i := by simp; omega
    show octets_Put_l1 F fs (putAll (fs.take i)) i = _
    unfold octets_Put_l1
    rw [if_pos (by simp [len]; omega), idx_nat, hx]
    simp only [Option.bind_some, octets_sized]
    obtain ⟨s0, s1, v0, v1, v2⟩ := hf
    have hsz : (!(decide (fs[i].Size ≥ 1) && decide (fs[i].Size ≤ 8))) = false := by simp; omega
    rw [hsz]
    simp only [Bool.false_eq_true, if_false]
    have hz : ((if decide (fs[i].Size < 8) = true then (ishr IntKind.u64 fs[i].Value (w64 (8 * fs[i].Size))).bind fun x_16 => some (x_16 != 0) else some false)) = some false := by
      by_cases h8 : fs[i].Size < 8
      · rw [if_pos (by simpa using h8)]
        have := shr_bytes (v := fs[i].Value) fs[i].Size.toNat (by omega) v0
        rw [show ((fs[i].Size.toNat : Nat) : Int) = fs[i].Size from by omega] at this
        rw [this, Int.ediv_eq_zero_of_lt v0 v2]
        rfl
      · rw [if_neg (by simpa using h8)]
    rw [hz]
    simp only [Option.bind_some, Bool.false_eq_true, if_false]
    rw [oput_in F fs[i] ⟨s0, s1, v0, v1, v2⟩ _ (by omega) (by omega)]
    simp only [Option.bind_some, octets_Put_j2]
    rw [w64_nat i (by omega), List.take_add_one, hx]
    simp only [putAll, List.map_append, List.flatten_append, Option.toList_some, List.map_cons, List.map_nil, List.flatten_cons, List.flatten_nil, List.append_nil]) (by
    show octets_Put_l1 F fs _ _ = _
    unfold octets_Put_l1
    rw [if_neg (by simp [len]), List.take_length]) F 0 (by omega) (by omega)
  simp only [List.take_zero] at this
  have h0 : (putAll [], ((0 : Nat) : Int)) = (([] : List Int), (0 : Int)) := rfl
  rw [h0] at this
  rw [this]
  rfl

/-! ### Take -/

theorem number_ok (F : Nat) (k : Nat) (n : Int) (hk0 : 1 ≤ k) (hk : k ≤ 8) (h0 : 0 ≤ n) (h1 : n < 18446744073709551616) (h2 : n < 256 ^ k) (hF : 20 < F) : database_number F (k : Int) n = some (leb k n) := by
  unfold database_number
  rw [oput_ok F [T_api_Field.mk k n] (by
    intro f hf
    simp at hf
    subst hf
    exact ⟨by simp only; omega, by simp only; omega, h0, h1, by simpa using h2⟩) (by simp) (by simp; omega), Option.bind_some]
  simp [putAll]
theorem join_three (F : Nat) (a b c : List Int) (hF : 3 < F) (h : a.length + b.length + c.length ≤ 140737488355328) : octets_Join F [a, b, c] = some (a ++ b ++ c) := by
  unfold octets_Join
  obtain ⟨F', rfl⟩ : ∃ F', F = F' + 1 + 1 + 1 + 1 := ⟨F - 4, by omega⟩
  have h1 : octets_Join_l1 (F' + 1 + 1 + 1 + 1) [a, b, c] [] 0 = some (.next (a, 1)) := by simpa using join_step (F' + 1 + 1 + 1 + 1) [a, b, c] [] 0 a rfl (by simp; omega) (by simp)
  have h2 : octets_Join_l1 (F' + 1 + 1 + 1 + 1) [a, b, c] a 1 = some (.next (a ++ b, 2)) := by simpa using join_step (F' + 1 + 1 + 1 + 1) [a, b, c] a 1 b rfl (by omega) (by simp)
  have h3 : octets_Join_l1 (F' + 1 + 1 + 1 + 1) [a, b, c] (a ++ b) 2 = some (.next (a ++ b ++ c, 3)) := by simpa using join_step (F' + 1 + 1 + 1 + 1) [a, b, c] (a ++ b) 2 c rfl (by rw [List.length_append]; omega) (by simp)
  rw [iter_step h1, iter_step h2, iter_step h3, iter_stop (o := a ++ b ++ c) (by unfold octets_Join_l1; rw [if_neg (by simp [len])])]
  rfl

/-! ### Mix, with the key 0 -/
def I32 (x : Int) : Prop := 0 ≤ x ∧ x < 4294967296
def I64 (x : Int) : Prop := 0 ≤ x ∧ x < 18446744073709551616
theorem ixor32_rng (a b : Int) : I32 (ixor .u32 a b) := by
  unfold ixor I32
  rw [wrap_u32]
  unfold wu32
  omega
theorem ixor64_rng (a b : Int) : I64 (ixor .u64 a b) := by
  unfold ixor I64
  rw [wrap_u64]
  unfold wu64
  omega
def rot (x : Int) (n m : Nat) : Int := ior .u32 (IntKind.u32.wrap (x * 2 ^ n)) (x.fdiv (2 ^ m))
theorem ishl_lit (x : Int) (n : Nat) (hn : n ≤ 32) : ishl .u32 x (n : Int) = some (IntKind.u32.wrap (x * 2 ^ n)) := by
  unfold ishl
  rw [if_neg (by omega)]
  have : min (n : Int).toNat IntKind.u32.bits = n := by
    show min (n : Int).toNat 32 = n
    omega
  rw [this]
theorem ishr_lit (k : IntKind) (x : Int) (n : Nat) (hn : n ≤ k.bits) : ishr k x (n : Int) = some (x.fdiv (2 ^ n)) := by
  unfold ishr
  rw [if_neg (by omega)]
  have : min (n : Int).toNat k.bits = n := by omega
  rw [this]
theorem rot_u (F : Nat) (x : Int) (n : Nat) (h1 : 1 ≤ n) (h2 : n ≤ 31) (e : iand .u64 (wu64 (n : Int)) 31 = (n : Int)) : math_bits_RotateLeft32 F x (n : Int) = some (rot x n (32 - n)) := by
  unfold math_bits_RotateLeft32
  rw [e, show wu64 (32 - (n : Int)) = ((32 - n : Nat) : Int) from by rw [wu64_id (by omega) (by omega)]; omega, ishl_lit x n (by omega), ishr_lit .u32 x (32 - n) (by show 32 - n ≤ 32; omega), Option.bind_some, Option.bind_some]
  rfl
theorem rot_r (F : Nat) (x : Int) (n : Nat) (h1 : 1 ≤ n) (h2 : n ≤ 31) : wirelessref05_Turn F x (n : Int) = some (rot x n (32 - n)) := by
  unfold wirelessref05_Turn
  rw [show w64 (32 - (n : Int)) = ((32 - n : Nat) : Int) from by rw [w64_id (by omega) (by omega)]; omega, ishl_lit x n (by omega), ishr_lit .u32 x (32 - n) (by show 32 - n ≤ 32; omega), Option.bind_some, Option.bind_some]
  rfl
def rnd (h : Int) : Int := ixor .u32 (wu32 (rot (wu32 (h + 0)) 7 25 * 2654435761)) (rot 0 16 16)
theorem round_u (F : Nat) (i : Int) (h0 : 0 ≤ i) (h1 : i < 8) (h : Int) : block_Round F 0 i h = some (rnd h) := by
  unfold block_Round
  have e1 : math_bits_RotateLeft64 F 0 (remp (w64 (11 * (remp i 64))) 64) = some 0 := by
    have e_0 : math_bits_RotateLeft64 F 0 (remp (w64 (11 * (remp 0 64))) 64) = some 0 := by kernel_rfl
    have e_1 : math_bits_RotateLeft64 F 0 (remp (w64 (11 * (remp 1 64))) 64) = some 0 := by kernel_rfl
    have e_2 : math_bits_RotateLeft64 F 0 (remp (w64 (11 * (remp 2 64))) 64) = some 0 := by kernel_rfl
    have e_3 : math_bits_RotateLeft64 F 0 (remp (w64 (11 * (remp 3 64))) 64) = some 0 := by kernel_rfl
    have e_4 : math_bits_RotateLeft64 F 0 (remp (w64 (11 * (remp 4 64))) 64) = some 0 := by kernel_rfl
    have e_5 : math_bits_RotateLeft64 F 0 (remp (w64 (11 * (remp 5 64))) 64) = some 0 := by kernel_rfl
    have e_6 : math_bits_RotateLeft64 F 0 (remp (w64 (11 * (remp 6 64))) 64) = some 0 := by kernel_rfl
    have e_7 : math_bits_RotateLeft64 F 0 (remp (w64 (11 * (remp 7 64))) 64) = some 0 := by kernel_rfl
    have : i = 0 ∨ i = 1 ∨ i = 2 ∨ i = 3 ∨ i = 4 ∨ i = 5 ∨ i = 6 ∨ i = 7 := by omega
    rcases this with h | h | h | h | h | h | h | h
    · rw [h]; exact e_0
    · rw [h]; exact e_1
    · rw [h]; exact e_2
    · rw [h]; exact e_3
    · rw [h]; exact e_4
    · rw [h]; exact e_5
    · rw [h]; exact e_6
    · rw [h]; exact e_7
  have e2 : serial_Low F 0 32 = some 0 := by kernel_rfl
  have e3 : wu32 0 = 0 := rfl
  rw [e1, Option.bind_some, e2, Option.bind_some, e3]
  have r1 := rot_u F (wu32 (h + 0)) 7 (by decide) (by decide) (by kernel_rfl)
  have r2 := rot_u F 0 16 (by decide) (by decide) (by kernel_rfl)
  rw [show ((7 : Nat) : Int) = 7 from rfl] at r1
  rw [show ((16 : Nat) : Int) = 16 from rfl] at r2
  rw [r1, r2, Option.bind_some, Option.bind_some]
  rfl
theorem round_r (F : Nat) (i : Int) (h0 : 0 ≤ i) (h1 : i < 8) (h : Int) : wirelessref05_Round F 0 i h = some (rnd h) := by
  unfold wirelessref05_Round
  have e1 : wirelessref05_Low F 0 i = some 0 := by
    have e_0 : wirelessref05_Low F 0 0 = some 0 := by kernel_rfl
    have e_1 : wirelessref05_Low F 0 1 = some 0 := by kernel_rfl
    have e_2 : wirelessref05_Low F 0 2 = some 0 := by kernel_rfl
    have e_3 : wirelessref05_Low F 0 3 = some 0 := by kernel_rfl
    have e_4 : wirelessref05_Low F 0 4 = some 0 := by kernel_rfl
    have e_5 : wirelessref05_Low F 0 5 = some 0 := by kernel_rfl
    have e_6 : wirelessref05_Low F 0 6 = some 0 := by kernel_rfl
    have e_7 : wirelessref05_Low F 0 7 = some 0 := by kernel_rfl
    have : i = 0 ∨ i = 1 ∨ i = 2 ∨ i = 3 ∨ i = 4 ∨ i = 5 ∨ i = 6 ∨ i = 7 := by omega
    rcases this with h | h | h | h | h | h | h | h
    · rw [h]; exact e_0
    · rw [h]; exact e_1
    · rw [h]; exact e_2
    · rw [h]; exact e_3
    · rw [h]; exact e_4
    · rw [h]; exact e_5
    · rw [h]; exact e_6
    · rw [h]; exact e_7
  rw [e1, Option.bind_some]
  have r1 := rot_r F (wu32 (h + 0)) 7 (by decide) (by decide)
  have r2 := rot_r F 0 16 (by decide) (by decide)
  rw [show ((7 : Nat) : Int) = 7 from rfl] at r1
  rw [show ((16 : Nat) : Int) = 16 from rfl] at r2
  rw [r1, r2, Option.bind_some, Option.bind_some]
  rfl
def mx : Nat → Int × Int → Int × Int
  | 0, s => s
  | n + 1, s => ((mx n s).2, ixor .u32 (mx n s).1 (rnd (mx n s).2))
theorem mx_rng : ∀ (n : Nat) (s : Int × Int), I32 s.1 → I32 s.2 → I32 (mx n s).1 ∧ I32 (mx n s).2
  | 0, _, h1, h2 => ⟨h1, h2⟩
  | n + 1, s, h1, h2 => ⟨(mx_rng n s h1 h2).2, ixor32_rng _ _⟩
def mix0 (x : Int) : Int := (mx 8 (x / 4294967296, x % 4294967296)).1 * 4294967296 + (mx 8 (x / 4294967296, x % 4294967296)).2
theorem mix0_rng {x : Int} (h : I64 x) : I64 (mix0 x) := by
  obtain ⟨h0, h1⟩ := h
  obtain ⟨⟨a1, a2⟩, b1, b2⟩ := mx_rng 8 (x / 4294967296, x % 4294967296) ⟨by simp only; omega, by simp only; omega⟩ ⟨by simp only; omega, by simp only; omega⟩
  unfold mix0 I64
  omega
theorem iand_mod (x : Int) (h0 : 0 ≤ x) (h1 : x < 18446744073709551616) : iand .u64 x 4294967295 = x % 4294967296 := by
  obtain ⟨a, rfl⟩ := Int.eq_ofNat_of_zero_le h0
  unfold iand
  have e : (BitVec.ofInt IntKind.u64.bits (a : Int) &&& BitVec.ofInt IntKind.u64.bits 4294967295).toNat = a % 4294967296 := by
    rw [BitVec.toNat_and]
    show (BitVec.ofInt 64 (a : Int)).toNat &&& (BitVec.ofInt 64 ((4294967295 : Nat) : Int)).toNat = _
    rw [ofInt_nat 64 a (by omega), ofInt_nat 64 4294967295 (by decide), show (4294967295 : Nat) = 2 ^ 32 - 1 from by decide, Nat.and_two_pow_sub_one_eq_mod]
  rw [e, wrap_u64, wu64_id (by omega) (by omega)]
  omega
theorem split_ok (F : Nat) {x : Int} (h : I64 x) : block_split F x = some (x / 4294967296, x % 4294967296) := by
  obtain ⟨h0, h1⟩ := h
  have e1 : ∀ x, serial_Low F x 32 = some (iand .u64 x 4294967295) := by
    intro x
    unfold serial_Low
    rw [if_neg (by decide), if_neg (by decide), show ishl .u64 1 32 = some 4294967296 from by kernel_rfl, Option.bind_some]
    rfl
  unfold block_split
  rw [e1, Option.bind_some, iand_mod x h0 h1, shrp_eq, show (2 : Int) ^ 32 = 4294967296 from rfl, wu32_id (by omega) (by omega), wu32_id (by omega) (by omega)]
theorem mix_iter (F : Nat) (b : Int × Int × Int → Option (Out (Int × Int × Int) (Int × Int))) (s : Int × Int) (hF : 8 < F)
    (h : ∀ (x y : Int) (i : Nat), i < 8 → b (x, y, (i : Int)) = some (.next (y, ixor .u32 x (rnd y), ((i + 1 : Nat) : Int)))) (hd : ∀ x y : Int, b (x, y, 8) = some (.done (x, y))) : iter b F (s.1, s.2, 0) = some (mx 8 s) := by
  have := iter_count (body := b) (fun i => ((mx i s).1, (mx i s).2, (i : Int))) 8 (mx 8 s) (fun i hi => h _ _ i hi) (hd _ _) F 0 (by omega) (by omega)
  exact this
theorem mix_u (F : Nat) {x : Int} (h : I64 x) (hF : 8 < F) : block_Mix F 0 x = some (mix0 x) := by
  have hm := mx_rng 8 (x / 4294967296, x % 4294967296) (by obtain ⟨h0, h1⟩ := h; exact ⟨by simp only; omega, by simp only; omega⟩) (by obtain ⟨h0, h1⟩ := h; exact ⟨by simp only; omega, by simp only; omega⟩)
  unfold block_Mix
  rw [split_ok F h, Option.bind_some]
  have := mix_iter F (fun s => block_Mix_l1 F 0 s.1 s.2.1 s.2.2) (x / 4294967296, x % 4294967296) hF (by
    intro x y i hi
    show block_Mix_l1 F 0 x y (i : Int) = _
    unfold block_Mix_l1
    rw [if_pos (dt (by omega)), round_u F i (by omega) (by omega), Option.bind_some, w64_nat i (by omega)]) (by
    intro x y
    show block_Mix_l1 F 0 x y 8 = _
    unfold block_Mix_l1
    rw [if_neg (by decide)])
  rw [this, Option.bind_some]
  unfold block_Mix_j1 block_halves_join mix0
  generalize mx 8 (x / 4294967296, x % 4294967296) = t at hm
  obtain ⟨⟨a0, a1⟩, b0, b1⟩ := hm
  obtain ⟨a, b⟩ := t
  simp only at a0 a1 b0 b1 ⊢
  obtain ⟨a, rfl⟩ := Int.eq_ofNat_of_zero_le a0
  obtain ⟨b, rfl⟩ := Int.eq_ofNat_of_zero_le b0
  have e : shlp .u64 (wu64 (a : Int)) 32 = ((a * 2 ^ 32 : Nat) : Int) := by
    unfold shlp
    rw [wu64_id (by omega) (by omega), wrap_u64, show (a : Int) * 2 ^ 32 = ((a * 2 ^ 32 : Nat) : Int) from by rw [Int.natCast_mul]; rfl, wu64_id (by omega) (by omega)]
  rw [Option.bind_some, e, wu64_id (x := (b : Int)) (by omega) (by omega), ior64 _ _ (by omega) (by omega), Nat.or_comm, nat_or_add _ _ 32 (by omega)]
  congr 1
  omega
theorem mix_r (F : Nat) {x : Int} (h : I64 x) (hF : 8 < F) : wirelessref05_Mix F 0 x = some (mix0 x) := by
  have hm := mx_rng 8 (x / 4294967296, x % 4294967296) (by obtain ⟨h0, h1⟩ := h; exact ⟨by simp only; omega, by simp only; omega⟩) (by obtain ⟨h0, h1⟩ := h; exact ⟨by simp only; omega, by simp only; omega⟩)
  obtain ⟨h0, h1⟩ := h
  have e1 : wu32 (quop .u64 x 4294967296) = x / 4294967296 := by
    unfold quop
    rw [Int.tdiv_eq_ediv_of_nonneg h0, wrap_u64, wu64_id (by omega) (by omega), wu32_id (by omega) (by omega)]
  have e2 : wu32 (remp x 4294967296) = x % 4294967296 := by
    unfold remp
    rw [Int.tmod_eq_emod_of_nonneg h0, wu32_id (by omega) (by omega)]
  unfold wirelessref05_Mix
  rw [e1, e2]
  have := mix_iter F (fun s => wirelessref05_Mix_l1 F 0 s.1 s.2.1 s.2.2) (x / 4294967296, x % 4294967296) hF (by
    intro x y i hi
    show wirelessref05_Mix_l1 F 0 x y (i : Int) = _
    unfold wirelessref05_Mix_l1
    rw [if_pos (dt (by omega)), round_r F i (by omega) (by omega), Option.bind_some, w64_nat i (by omega)]) (by
    intro x y
    show wirelessref05_Mix_l1 F 0 x y 8 = _
    unfold wirelessref05_Mix_l1
    rw [if_neg (by decide)])
  rw [this, Option.bind_some]
  unfold wirelessref05_Mix_j1 mix0
  generalize mx 8 (x / 4294967296, x % 4294967296) = t at hm
  obtain ⟨⟨a0, a1⟩, b0, b1⟩ := hm
  rw [wu64_id (x := t.1) (by omega) (by omega), wu64_id (x := t.1 * 4294967296) (by omega) (by omega), wu64_id (x := t.2) (by omega) (by omega), wu64_id (by omega) (by omega)]

/-! ### Tag -/
theorem num_rng {l : List Int} (hb : ∀ x ∈ l, Byte x) (hl : l.length ≤ 8) : I64 (num l) := by
  have h1 := num_lt hb
  have h2 : (256 : Int) ^ l.length ≤ 256 ^ 8 := by
    have h2 : (256 : Nat) ^ l.length ≤ 256 ^ 8 := Nat.pow_le_pow_right (by decide) hl
    have h3 : ((256 ^ l.length : Nat) : Int) ≤ ((256 ^ 8 : Nat) : Int) := Int.ofNat_le.2 h2
    rw [Int.natCast_pow, Int.natCast_pow] at h3
    exact h3
  rw [show (256 : Int) ^ 8 = 18446744073709551616 from rfl] at h2
  exact ⟨num_nonneg hb, by omega⟩
theorem chunk_u (F : Nat) (l : List Int) (hb : ∀ x ∈ l, Byte x) (hl : l.length ≤ 8) (hF : 8 < F) : iter (fun s : Int × Int => mac_Tag_it_l2 F l s.1 s.2) F (0, 0) = some (num l) := by
  have := iter_count (body := fun s : Int × Int => mac_Tag_it_l2 F l s.1 s.2) (fun i => (num (l.take i), (i : Int))) l.length (num l) (by
    intro i hi
    have hx : l[i]? = some l[i] := List.getElem?_eq_getElem hi
    show mac_Tag_it_l2 F l (num (l.take i)) (i : Int) = _
    unfold mac_Tag_it_l2
    rw [if_pos (dt (show (i : Int) < len l by rw [len_nat]; omega)), idx_nat, hx, Option.bind_some, shl_bytes (hb _ (List.mem_of_getElem? hx)) i (by omega), Option.bind_some, w64_nat i (by omega), ior_num hb (by omega) _ hx]) (by
    show mac_Tag_it_l2 F l _ (l.length : Int) = _
    unfold mac_Tag_it_l2
    rw [if_neg (df (by rw [len_nat]; omega)), List.take_length]) F 0 (by omega) (by omega)
  exact this
theorem chunk_r (F : Nat) (l : List Int) (hb : ∀ x ∈ l, Byte x) (hl : l.length ≤ 8) (hF : 8 < F) : wirelessref02_Value F l = some (num l) := by
  unfold wirelessref02_Value
  have := iter_count (body := fun s : Int × Int => wirelessref02_Value_l1 F l s.1 s.2) (fun j => (num (l.drop (l.length - j)), ((l.length - j : Nat) : Int) - 1)) l.length (num l) (by
    intro j hj
    have hi : l.length - j - 1 < l.length := by omega
    have hx : l[l.length - j - 1]? = some l[l.length - j - 1] := List.getElem?_eq_getElem hi
    have hdr : l.drop (l.length - j - 1) = l[l.length - j - 1] :: l.drop (l.length - j - 1 + 1) := List.drop_eq_getElem_cons hi
    have hby := hb _ (List.getElem_mem hi)
    generalize l[l.length - j - 1] = x at hx hdr hby
    have hn := num_rng (l := l.drop (l.length - j - 1)) (fun y hy => hb y (List.mem_of_mem_drop hy)) (by rw [List.length_drop]; omega)
    have hn2 := num_nonneg (l := l.drop (l.length - j)) (fun y hy => hb y (List.mem_of_mem_drop hy))
    rw [show l.length - j - 1 + 1 = l.length - j from by omega] at hdr
    rw [hdr, num] at hn
    obtain ⟨hn0, hn1⟩ := hn
    obtain ⟨hb0, hb1⟩ := hby
    show wirelessref02_Value_l1 F l (num (l.drop (l.length - j))) (((l.length - j : Nat) : Int) - 1) = _
    unfold wirelessref02_Value_l1
    rw [if_pos (dt (by omega)), show ((l.length - j : Nat) : Int) - 1 = ((l.length - j - 1 : Nat) : Int) from by omega, idx_nat, hx, Option.bind_some, wu64_id (x := num (l.drop (l.length - j)) * 256) (by omega) (by omega), wu64_id (x := x) (by omega) (by omega), wu64_id (by omega) (by omega), w64_id (by omega) (by omega)]
    rw [show l.length - (j + 1) = l.length - j - 1 from by omega, hdr, num]
    congr 3
    omega) (by
    show wirelessref02_Value_l1 F l _ (((l.length - l.length : Nat) : Int) - 1) = _
    unfold wirelessref02_Value_l1
    rw [if_neg (df (by omega)), Nat.sub_self, List.drop_zero]) F 0 (by omega) (by omega)
  have h0 : num (l.drop (l.length - 0)) = 0 := by rw [Nat.sub_zero, List.drop_length]; rfl
  rw [h0] at this
  rw [len_nat, w64_id (by omega) (by omega)]
  rw [show ((l.length - 0 : Nat) : Int) - 1 = (l.length : Int) - 1 from by omega] at this
  rw [this, Option.bind_some]
  rfl
theorem tag_same (F : Nat) (b : List Int) (hb : ∀ x ∈ b, Byte x) (hl : b.length ≤ 1000000000) (hF : 1000000020 < F) : ∃ x, mac_Tag F 0 b = some x ∧ wirelessref06_Tag F 0 b = some x ∧ I64 x := by
  have h0 : I64 (wu64 (len b)) := by rw [len_nat, wu64_id (by omega) (by omega)]; exact ⟨by omega, by omega⟩
  obtain ⟨o1, o2, h1, h2, h3, h4⟩ := iter_sim (b1 := fun s : Int × Int => mac_Tag_it_l1 F 0 b s.1 s.2) (b2 := fun s : Int × Int => wirelessref06_Tag_l1 F 0 b s.1 s.2)
    (fun s t => s = t ∧ I64 s.1 ∧ ∃ i : Nat, s.2 = (i : Int) ∧ i ≤ b.length + 8) (fun a b => a = b ∧ I64 a) (fun s => b.length + 8 - s.2.toNat) (by
    rintro ⟨x, at_⟩ _ ⟨rfl, hx, i, hi, hil⟩
    simp only at hx hi
    subst hi
    show (∃ t1 t2, mac_Tag_it_l1 F 0 b x (i : Int) = some (.next t1) ∧ wirelessref06_Tag_l1 F 0 b x (i : Int) = some (.next t2) ∧ _) ∨ ∃ o1 o2, mac_Tag_it_l1 F 0 b x (i : Int) = some (.done o1) ∧ wirelessref06_Tag_l1 F 0 b x (i : Int) = some (.done o2) ∧ _
    unfold mac_Tag_it_l1 wirelessref06_Tag_l1
    by_cases hin : i < b.length
    · have hmin : imin (w64 ((i : Int) + 8)) (len b) = ((min (i + 8) b.length : Nat) : Int) := by
        rw [w64_id (by omega) (by omega), len_nat]
        unfold imin
        by_cases h : (b.length : Int) < (i : Int) + 8
        · rw [if_pos h]; omega
        · rw [if_neg h]; omega
      have hcb : ∀ y ∈ (b.take (min (i + 8) b.length)).drop i, Byte y := fun y hy => hb y (List.mem_of_mem_take (List.mem_of_mem_drop hy))
      have hcl : ((b.take (min (i + 8) b.length)).drop i).length ≤ 8 := by rw [List.length_drop, List.length_take]; omega
      rw [if_pos (dt (show (i : Int) < len b by rw [len_nat]; omega)), if_pos (dt (show (i : Int) < len b by rw [len_nat]; omega)), hmin, sub_nat b i _ (by omega) (by omega), Option.bind_some, Option.bind_some, chunk_u F _ hcb hcl (by omega), chunk_r F _ hcb hcl (by omega), Option.bind_some, Option.bind_some]
      unfold mac_Tag_it_j2 mac_Tag_b
      have hr := ixor64_rng x (num ((b.take (min (i + 8) b.length)).drop i))
      rw [mix_u F hr (by omega), mix_r F hr (by omega), Option.bind_some, Option.bind_some, Option.bind_some]
      unfold mac_Tag_it_j1
      refine .inl ⟨_, _, rfl, rfl, ⟨rfl, mix0_rng hr, i + 8, ?_, by omega⟩, ?_⟩
      · simp only
        rw [w64_id (by omega) (by omega)]
        omega
      · simp only
        rw [w64_id (by omega) (by omega)]
        omega
    · rw [if_neg (df (show ¬ (i : Int) < len b by rw [len_nat]; omega)), if_neg (df (show ¬ (i : Int) < len b by rw [len_nat]; omega))]
      exact .inr ⟨_, _, rfl, rfl, rfl, hx⟩) F (mix0 (wu64 (len b)), 0) (mix0 (wu64 (len b)), 0) ⟨rfl, mix0_rng h0, 0, rfl, by omega⟩ (by simp only; omega)
  subst h3
  refine ⟨o1, ?_, ?_, h4⟩
  · unfold mac_Tag mac_Tag_it
    rw [mix_u F h0 (by omega), Option.bind_some, h1]
    rfl
  · unfold wirelessref06_Tag
    rw [mix_r F h0 (by omega), Option.bind_some, h2]
    rfl
theorem rnum8_step (F : Nat) (size n i : Int) (l : List Int) (h0 : 0 ≤ n) (h1 : n < 18446744073709551616) (hl : l.length ≤ 1000000) (hi : 0 ≤ i ∧ i < 1000) (hs : i < size) : wirelessref02_Num_l1 F size n l i = some (.next (n / 256, l ++ [n % 256], i + 1)) := by
  unfold wirelessref02_Num_l1
  rw [if_pos (by simpa using hs)]
  simp only [remp, quop, tmod256 h0, tdiv256 h0, wrap_u64]
  rw [wu8_id (by omega) (by omega), app_cat (by simp; omega)]
  simp only [Option.bind_some]
  rw [wu64_id (by omega) (by omega), w64_id (by omega) (by omega)]
theorem rnum8_ok (F : Nat) (n : Int) (hF : 9 < F) (h : I64 n) : wirelessref02_Num F 8 n = some (leb 8 n) := by
  have key : ∀ (m f : Nat) (n i : Int) (l : List Int), 0 ≤ n → n < 18446744073709551616 → l.length ≤ 1000 - m → m ≤ 8 → 0 ≤ i → i + m = 8 → m < f → iter (fun s : Int × List Int × Int => wirelessref02_Num_l1 F 8 s.1 s.2.1 s.2.2) f (n, l, i) = some (l ++ leb m n) := by
    intro m
    induction m with
    | zero =>
      intro f n i l h0 h1 hl hm hi hik hf
      cases f with
      | zero => omega
      | succ f =>
        rw [iter_stop (o := l) (by unfold wirelessref02_Num_l1; rw [if_neg (by simp; omega)])]
        simp [leb]
    | succ m ih =>
      intro f n i l h0 h1 hl hm hi hik hf
      cases f with
      | zero => omega
      | succ f =>
        rw [iter_step (rnum8_step F 8 n i l h0 h1 (by omega) (by omega) (by omega)), ih f (n / 256) (i + 1) (l ++ [n % 256]) (by omega) (by omega) (by simp; omega) (by omega) (by omega) (by omega) (by omega)]
        simp [leb]
  unfold wirelessref02_Num
  rw [key 8 F n 0 [] h.1 h.2 (by simp) (by omega) (by omega) (by omega) (by omega), Option.bind_some]
  rfl
theorem derive_same (F : Nat) (x : Int) (hx : I64 x) (hF : 1000000020 < F) : ∃ y, mac_Derive F 0 [104, 97, 115, 104] [x] = some y ∧ wirelessref06_Derive F 0 [104, 97, 115, 104] [x] = some y := by
  obtain ⟨y, h1, h2, _⟩ := tag_same F ([104, 97, 115, 104, 0] ++ leb 8 x) (by
    intro z hz
    rcases List.mem_append.1 hz with hz | hz
    · simp at hz
      unfold Byte
      omega
    · exact leb_byte _ _ z hz) (by rw [List.length_append, leb_length]; simp) hF
  refine ⟨y, ?_, ?_⟩
  · unfold mac_Derive mac_bytes
    obtain ⟨F', rfl⟩ : ∃ F', F = F' + 1 + 1 := ⟨F - 2, by omega⟩
    have s1 : mac_bytes_l1 (F' + 1 + 1) [x] [] 0 = some (.next ([T_api_Field.mk 8 x], 1)) := by
      unfold mac_bytes_l1
      rw [if_pos (by simp [len]), show idx [x] 0 = some x from rfl, Option.bind_some, app_small (by simp) (by omega), Option.bind_some]
      rfl
    have s2 : mac_bytes_l1 (F' + 1 + 1) [x] [T_api_Field.mk 8 x] 1 = some (.done [T_api_Field.mk 8 x]) := by
      unfold mac_bytes_l1
      rw [if_neg (by simp [len])]
    rw [app_cat (by simp), Option.bind_some, iter_step (body := fun s : List T_api_Field × Int => mac_bytes_l1 (F' + 1 + 1) [x] s.1 s.2) s1, iter_stop (body := fun s : List T_api_Field × Int => mac_bytes_l1 (F' + 1 + 1) [x] s.1 s.2) s2, Option.bind_some]
    unfold mac_bytes_j1
    rw [oput_ok (F' + 1 + 1) [T_api_Field.mk 8 x] (by
      intro f hf
      simp at hf
      subst hf
      exact ⟨by simp, by simp, hx.1, hx.2, hx.2⟩) (by simp) (by simp; omega), Option.bind_some, Option.bind_some]
    have hp : putAll [T_api_Field.mk 8 x] = leb 8 x := by simp [putAll]
    rw [hp, join_three _ _ _ _ (by omega) (by rw [leb_length]; simp), Option.bind_some]
    show (mac_Tag (F' + 1 + 1) 0 ([104, 97, 115, 104, 0] ++ leb 8 x)).bind _ = _
    rw [h1]
    rfl
  · unfold wirelessref06_Derive
    obtain ⟨F', rfl⟩ : ∃ F', F = F' + 1 + 1 := ⟨F - 2, by omega⟩
    have s1 : wirelessref06_Derive_l1 (F' + 1 + 1) [x] [104, 97, 115, 104, 0] 0 = some (.next ([104, 97, 115, 104, 0] ++ leb 8 x, 1)) := by
      unfold wirelessref06_Derive_l1
      rw [if_pos (by simp [len]), show idx [x] 0 = some x from rfl, Option.bind_some, rnum8_ok _ x (by omega) hx, Option.bind_some, app_cat (by rw [leb_length]; simp), Option.bind_some]
      rfl
    have s2 : wirelessref06_Derive_l1 (F' + 1 + 1) [x] ([104, 97, 115, 104, 0] ++ leb 8 x) 1 = some (.done ([104, 97, 115, 104, 0] ++ leb 8 x)) := by
      unfold wirelessref06_Derive_l1
      rw [if_neg (by simp [len])]
    rw [app_cat (by simp), Option.bind_some, app_cat (by simp), Option.bind_some]
    show (iter (fun s : List Int × Int => wirelessref06_Derive_l1 (F' + 1 + 1) [x] s.1 s.2) (F' + 1 + 1) ([104, 97, 115, 104, 0], 0)).bind _ = _
    rw [iter_step (body := fun s : List Int × Int => wirelessref06_Derive_l1 (F' + 1 + 1) [x] s.1 s.2) s1, iter_stop (body := fun s : List Int × Int => wirelessref06_Derive_l1 (F' + 1 + 1) [x] s.1 s.2) s2, Option.bind_some]
    unfold wirelessref06_Derive_j1
    rw [h2]
    rfl

/-! ### Hash -/
def hat (a : T_api_Attribute) : List Int := (leb 2 a.Handle ++ leb 8 a.f_Type.Low ++ leb 8 a.f_Type.High) ++ (if decl a.f_Type = true then leb 2 (a.Value.length : Int) ++ a.Value else [])
def hbs (db : List T_api_Attribute) : List Int := db.foldl (fun b a => b ++ hat a) []
theorem hat_len {a : T_api_Attribute} (h : a.Value.length ≤ 8192) : (hat a).length ≤ 8300 := by
  unfold hat
  rw [List.length_append, List.length_append, List.length_append, leb_length, leb_length, leb_length]
  by_cases hd : decl a.f_Type = true
  · rw [if_pos hd, List.length_append, leb_length]; omega
  · rw [if_neg hd, List.length_nil]; omega
theorem hat_byte {a : T_api_Attribute} (h : AOk a) : ∀ x ∈ hat a, Byte x := by
  intro x hx
  unfold hat at hx
  rcases List.mem_append.1 hx with hx | hx
  · rcases List.mem_append.1 hx with hx | hx
    · rcases List.mem_append.1 hx with hx | hx
      · exact leb_byte _ _ x hx
      · exact leb_byte _ _ x hx
    · exact leb_byte _ _ x hx
  · by_cases hd : decl a.f_Type = true
    · rw [if_pos hd] at hx
      rcases List.mem_append.1 hx with hx | hx
      · exact leb_byte _ _ x hx
      · exact h.b x hx
    · rw [if_neg hd] at hx
      cases hx
theorem hbs_inv : ∀ (db : List T_api_Attribute) (b : List Int), (∀ a ∈ db, AOk a) → (∀ a ∈ db, a.Value.length ≤ 8192) → (∀ x ∈ b, Byte x) → (∀ x ∈ db.foldl (fun b a => b ++ hat a) b, Byte x) ∧ (db.foldl (fun b a => b ++ hat a) b).length ≤ b.length + 8300 * db.length
  | [], b, _, _, hb => ⟨hb, by simp⟩
  | a :: r, b, h1, h2, hb => by
    have ih := hbs_inv r (b ++ hat a) (fun c hc => h1 c (by simp [hc])) (fun c hc => h2 c (by simp [hc])) (by
      intro x hx
      rcases List.mem_append.1 hx with hx | hx
      · exact hb x hx
      · exact hat_byte (h1 a (by simp)) x hx)
    have hl := hat_len (h2 a (by simp))
    rw [List.foldl_cons, List.length_cons]
    refine ⟨ih.1, Nat.le_trans ih.2 ?_⟩
    rw [List.length_append]
    omega
theorem u_hbs (F : Nat) (db : List T_api_Attribute) (hdb : ∀ a ∈ db, AOk a) (hv : ∀ a ∈ db, a.Value.length ≤ 8192) (hn : db.length ≤ 1000) (hF : 2000 < F) : iter (fun s : List Int × Int => database_Hash_l1 F db s.1 s.2) F ([], 0) = some (hbs db) := by
  have := iter_fold2 (body := fun s : List Int × Int => database_Hash_l1 F db s.1 s.2) db (fun b a => b ++ hat a) (fun b i => (b, (i : Int))) (fun b => b) (fun i b => b.length ≤ 8300 * i) (by
    intro i a b hx hb
    have hi := (List.getElem?_eq_some_iff.1 hx).1
    have ha := hdb a (List.mem_of_getElem? hx)
    have hva := hv a (List.mem_of_getElem? hx)
    have hl := hat_len hva
    refine ⟨?_, by rw [List.length_append]; omega⟩
    show database_Hash_l1 F db b (i : Int) = _
    unfold database_Hash_l1
    have n1 := number_ok F 2 a.Handle (by decide) (by decide) ha.h0 (by have := ha.h1; omega) (by have := ha.h1; rw [show (256 : Int) ^ 2 = 65536 from rfl]; omega) (by omega)
    have n2 := number_ok F 8 a.f_Type.Low (by decide) (by decide) ha.u.l0 ha.u.l1 (by rw [show (256 : Int) ^ 8 = 18446744073709551616 from rfl]; exact ha.u.l1) (by omega)
    have n3 := number_ok F 8 a.f_Type.High (by decide) (by decide) ha.u.h0 ha.u.h1 (by rw [show (256 : Int) ^ 8 = 18446744073709551616 from rfl]; exact ha.u.h1) (by omega)
    rw [show ((2 : Nat) : Int) = 2 from rfl] at n1
    rw [show ((8 : Nat) : Int) = 8 from rfl] at n2 n3
    rw [if_pos (dt (show (i : Int) < len db by rw [len_nat]; omega)), idx_nat, hx, Option.bind_some, wu64_id (x := a.Handle) ha.h0 (by have := ha.h1; omega), n1, Option.bind_some, n2, Option.bind_some, n3, Option.bind_some, join_three F _ _ _ (by omega) (by rw [leb_length, leb_length, leb_length]; omega), Option.bind_some, app_cat (by rw [List.length_append, List.length_append, leb_length, leb_length, leb_length]; omega), Option.bind_some]
    unfold database_Hash_j3 hat
    rw [declaration_ok F ha.u (by omega), Option.bind_some]
    by_cases hd : decl a.f_Type = true
    · have n4 := number_ok F 2 (a.Value.length : Int) (by decide) (by decide) (by omega) (by omega) (by rw [show (256 : Int) ^ 2 = 65536 from rfl]; omega) (by omega)
      rw [show ((2 : Nat) : Int) = 2 from rfl] at n4
      rw [if_pos hd, if_pos hd, len_nat, wu64_id (x := (a.Value.length : Int)) (by omega) (by omega), n4, Option.bind_some, join_two F _ _ (by omega) (by rw [leb_length]; omega), Option.bind_some, app_cat (by simp only [List.length_append, leb_length]; omega), Option.bind_some]
      unfold database_Hash_j2
      rw [w64_nat i (by omega), List.append_assoc]
    · rw [if_neg hd, if_neg hd]
      unfold database_Hash_j2
      rw [w64_nat i (by omega), List.append_nil]) (by
    intro b _
    show database_Hash_l1 F db b (db.length : Int) = _
    unfold database_Hash_l1
    rw [if_neg (df (by rw [len_nat]; omega))]) F 0 [] (by omega) (by simp) (by omega)
  rw [List.drop_zero] at this
  exact this
theorem r_hbs (F : Nat) (db : List T_api_Attribute) (hdb : ∀ a ∈ db, AOk a) (hv : ∀ a ∈ db, a.Value.length ≤ 8192) (hn : db.length ≤ 1000) (hF : 2000 < F) : iter (fun s : List Int × Int => wirelessref43_Hash_l1 F db s.1 s.2) F ([], 0) = some (hbs db) := by
  have := iter_fold2 (body := fun s : List Int × Int => wirelessref43_Hash_l1 F db s.1 s.2) db (fun b a => b ++ hat a) (fun b i => (b, (i : Int))) (fun b => b) (fun i b => b.length ≤ 8300 * i) (by
    intro i a b hx hb
    have hi := (List.getElem?_eq_some_iff.1 hx).1
    have ha := hdb a (List.mem_of_getElem? hx)
    have hva := hv a (List.mem_of_getElem? hx)
    have hl := hat_len hva
    refine ⟨?_, by rw [List.length_append]; omega⟩
    show wirelessref43_Hash_l1 F db b (i : Int) = _
    unfold wirelessref43_Hash_l1
    have n1 := rput_ok F a.Handle 2 (by omega) (by omega) ha.h0 (by have := ha.h1; omega)
    have n2 := rput_ok F a.f_Type.Low 8 (by omega) (by omega) ha.u.l0 ha.u.l1
    have n3 := rput_ok F a.f_Type.High 8 (by omega) (by omega) ha.u.h0 ha.u.h1
    rw [show ((2 : Nat) : Int) = 2 from rfl] at n1
    rw [show ((8 : Nat) : Int) = 8 from rfl] at n2 n3
    rw [if_pos (dt (show (i : Int) < len db by rw [len_nat]; omega)), idx_nat, hx, Option.bind_some, wu64_id (x := a.Handle) ha.h0 (by have := ha.h1; omega), n1, Option.bind_some, app_cat (by rw [leb_length]; omega), Option.bind_some, Option.bind_some, n2, Option.bind_some, app_cat (by simp only [List.length_append, leb_length]; omega), Option.bind_some, Option.bind_some, n3, Option.bind_some, app_cat (by simp only [List.length_append, leb_length]; omega), Option.bind_some, Option.bind_some, rdeclares, Option.bind_some]
    unfold hat
    by_cases hd : decl a.f_Type = true
    · have n4 := rput_ok F (a.Value.length : Int) 2 (by omega) (by omega) (by omega) (by omega)
      rw [show ((2 : Nat) : Int) = 2 from rfl] at n4
      rw [if_pos hd, if_pos hd, Option.bind_some, len_nat, wu64_id (x := (a.Value.length : Int)) (by omega) (by omega), n4, Option.bind_some, app_cat (by simp only [List.length_append, leb_length]; omega), Option.bind_some, Option.bind_some, app_cat (by simp only [List.length_append, leb_length]; omega), Option.bind_some]
      unfold wirelessref43_Hash_j2
      rw [w64_nat i (by omega)]
      simp only [List.append_assoc]
    · rw [if_neg hd, if_neg hd]
      unfold wirelessref43_Hash_j2
      rw [w64_nat i (by omega)]
      simp only [List.append_assoc, List.append_nil]) (by
    intro b _
    show wirelessref43_Hash_l1 F db b (db.length : Int) = _
    unfold wirelessref43_Hash_l1
    rw [if_neg (df (by rw [len_nat]; omega))]) F 0 [] (by omega) (by simp) (by omega)
  rw [List.drop_zero] at this
  exact this
theorem hash_same (F : Nat) (db : List T_api_Attribute) (hdb : ∀ a ∈ db, AOk a) (hv : ∀ a ∈ db, a.Value.length ≤ 8192) (hn : db.length ≤ 1000) (hF : 1000000020 < F) : ∃ y, database_Hash F db = some y ∧ wirelessref43_Hash F db = some y := by
  have hi := hbs_inv db [] hdb hv (by simp)
  obtain ⟨x, h1, h2, h3⟩ := tag_same F (hbs db) hi.1 (Nat.le_trans hi.2 (by simp; omega)) hF
  obtain ⟨y, h4, h5⟩ := derive_same F x h3 hF
  refine ⟨imax 1 y, ?_, ?_⟩
  · unfold database_Hash
    rw [u_hbs F db hdb hv hn (by omega), Option.bind_some]
    unfold database_Hash_j1
    rw [h1, Option.bind_some, h4, Option.bind_some]
  · unfold wirelessref43_Hash
    rw [r_hbs F db hdb hv hn (by omega), Option.bind_some]
    unfold wirelessref43_Hash_j1
    rw [h2, Option.bind_some, h5, Option.bind_some]
end V
end Go.Proofs.Ytchlimkophmjlaa
