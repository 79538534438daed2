/-
  Numbers of types: what the functions of uuid, and of the reference, compute.
-/
import Derived.Test.YtchlimkophmjlaaLawN
namespace Go.Proofs.Ytchlimkophmjlaa
namespace V
theorem iter_find {S O α : Type} {body : S → Option (Out S O)} (st : Nat → S) {l : List α} {p : α → Bool} {g : Nat → O} {e : O} (h : ∀ (i : Nat) x, l[i]? = some x → body (st i) = some (if p x = true then .done (g i) else .next (st (i + 1)))) (he : body (st l.length) = some (.done e)) :
    ∀ (F i : Nat), i ≤ l.length → l.length - i < F → iter body F (st i) = some (match (l.drop i).findIdx? p with | some k => g (i + k) | none => e)
  | 0, i, _, hF => by omega
  | F + 1, i, hi, hF => by
    by_cases hin : i < l.length
    · have hx : l[i]? = some l[i] := List.getElem?_eq_getElem hin
      have hdr : l.drop i = l[i] :: l.drop (i + 1) := List.drop_eq_getElem_cons hin
      have hb := h i _ hx
      by_cases hp : p l[i] = true
      · rw [if_pos hp] at hb
        rw [iter_stop hb, hdr, List.findIdx?_cons, hp]
        rfl
      · rw [if_neg hp] at hb
        rw [iter_step hb, iter_find st h he F (i + 1) hin (by omega), hdr, List.findIdx?_cons, if_neg hp]
        cases (l.drop (i + 1)).findIdx? p with
        | none => rfl
        | some k => simp only [Option.map_some]; rw [show i + 1 + k = i + (k + 1) from by omega]
    · have : i = l.length := by omega
      subst this
      rw [iter_stop he, List.drop_length]
      rfl

theorem df {p : Prop} [Decidable p] (h : ¬ p) : ¬ decide p = true := by simpa using h
def sht (n : Int) : T_api_UUID := T_api_UUID.mk (n * 4294967296 + 4096) 9223372588214596859
structure UOk (u : T_api_UUID) : Prop where
  h0 : 0 ≤ u.High
  h1 : u.High < 18446744073709551616
  l0 : 0 ≤ u.Low
  l1 : u.Low < 18446744073709551616
theorem sht_ok {n : Int} (h0 : 0 ≤ n) (h1 : n < 65536) : UOk (sht n) := ⟨by simp only [sht]; omega, by simp only [sht]; omega, by simp only [sht]; omega, by simp only [sht]; omega⟩
theorem rshort (F : Nat) (n : Int) (h0 : 0 ≤ n) (h1 : n < 65536) : wirelessref41_Short F n = some (sht n) := by
  unfold wirelessref41_Short sht
  rw [wu64_id (x := n) (by omega) (by omega), wu64_id (x := n * 4294967296) (by omega) (by omega), wu64_id (by omega) (by omega)]
theorem ofInt_nat (w a : Nat) (h : a < 2 ^ w) : (BitVec.ofInt w (a : Int)).toNat = a := by
  rw [BitVec.toNat_ofInt, ← Int.natCast_emod, Int.toNat_natCast, Nat.mod_eq_of_lt h]
theorem ior64 (a b : Nat) (ha : a < 2 ^ 64) (hb : b < 2 ^ 64) : ior .u64 (a : Int) (b : Int) = ((a ||| b : Nat) : Int) := by
  have h := Nat.or_lt_two_pow ha hb
  unfold ior
  have e : (BitVec.ofInt IntKind.u64.bits (a : Int) ||| BitVec.ofInt IntKind.u64.bits (b : Int)).toNat = a ||| b := by
    rw [BitVec.toNat_or]
    show (BitVec.ofInt 64 (a : Int)).toNat ||| (BitVec.ofInt 64 (b : Int)).toNat = _
    rw [ofInt_nat 64 a ha, ofInt_nat 64 b hb]
  rw [e, wrap_u64, wu64_id (by omega) (by omega)]
theorem ior16 (a b : Nat) (ha : a < 2 ^ 16) (hb : b < 2 ^ 16) : ior .u16 (a : Int) (b : Int) = ((a ||| b : Nat) : Int) := by
  have h := Nat.or_lt_two_pow ha hb
  unfold ior
  have e : (BitVec.ofInt IntKind.u16.bits (a : Int) ||| BitVec.ofInt IntKind.u16.bits (b : Int)).toNat = a ||| b := by
    rw [BitVec.toNat_or]
    show (BitVec.ofInt 16 (a : Int)).toNat ||| (BitVec.ofInt 16 (b : Int)).toNat = _
    rw [ofInt_nat 16 a ha, ofInt_nat 16 b hb]
  rw [e, wrap_u16, wu16_id (by omega) (by omega)]
theorem ushort (F : Nat) (n : Int) (h0 : 0 ≤ n) (h1 : n < 65536) : uuid_Short F n = some (sht n) := by
  unfold uuid_Short sht
  obtain ⟨n, rfl⟩ := Int.eq_ofNat_of_zero_le h0
  have e : shlp .u64 (wu64 (n : Int)) 32 = ((n * 2 ^ 32 : Nat) : Int) := by
    unfold shlp
    rw [wu64_id (by omega) (by omega), wrap_u64, show (n : Int) * 2 ^ 32 = ((n * 2 ^ 32 : Nat) : Int) from by rw [Int.natCast_mul]; rfl, wu64_id (by omega) (by omega)]
  rw [e, show (4096 : Int) = ((4096 : Nat) : Int) from rfl, ior64 _ _ (by omega) (by omega), Nat.or_comm, nat_or_add _ _ 32 (by decide)]
  congr 2
  omega
theorem word16 {x y : Int} (hx : Byte x) (hy : Byte y) : ior .u16 (wu16 x) (shlp .u16 (wu16 y) 8) = x + 256 * y := by
  obtain ⟨x0, x1⟩ := hx
  obtain ⟨y0, y1⟩ := hy
  obtain ⟨x, rfl⟩ := Int.eq_ofNat_of_zero_le x0
  obtain ⟨y, rfl⟩ := Int.eq_ofNat_of_zero_le y0
  have e : shlp .u16 (wu16 (y : Int)) 8 = ((y * 2 ^ 8 : Nat) : Int) := by
    unfold shlp
    rw [wu16_id (by omega) (by omega), wrap_u16, show (y : Int) * 2 ^ 8 = ((y * 2 ^ 8 : Nat) : Int) from by rw [Int.natCast_mul]; rfl, wu16_id (by omega) (by omega)]
  rw [e, wu16_id (by omega) (by omega), ior16 _ _ (by omega) (by omega), nat_or_add _ _ 8 (by omega)]
  omega
theorem shrp_eq (x : Int) (n : Nat) : shrp x n = x / 2 ^ n := by
  unfold shrp
  rw [Int.fdiv_eq_ediv_of_nonneg _ (Int.le_of_lt (Int.pow_pos (by decide)))]
theorem ubytes (F : Nat) (u : T_api_UUID) : uuid_bytes F u = some (u.Low % 256, u.Low / 256 % 256, u.Low / 65536 % 256, u.Low / 16777216 % 256, u.Low / 4294967296 % 256, u.Low / 1099511627776 % 256, u.Low / 281474976710656 % 256, u.Low / 72057594037927936 % 256, u.High % 256, u.High / 256 % 256, u.High / 65536 % 256, u.High / 16777216 % 256, u.High / 4294967296 % 256, u.High / 1099511627776 % 256, u.High / 281474976710656 % 256, u.High / 72057594037927936 % 256) := by
  simp only [uuid_bytes, uuid_bytes_u2_1, uuid_bytes_u2_2, uuid_bytes_u2_3, uuid_bytes_u2_4, uuid_bytes_u2_5, uuid_bytes_u2_6, uuid_bytes_u2_7, uuid_bytes_u2_8, uuid_bytes_j1, shrp_eq, wu8, Int.reducePow, Int.ediv_one]
def numb (u : T_api_UUID) : Int × Bool := if u.Low = 9223372588214596859 ∧ u.High % 4294967296 = 4096 ∧ u.High / 4294967296 < 65536 then (u.High / 4294967296, true) else (0, false)
theorem unumber (F : Nat) {u : T_api_UUID} (hu : UOk u) : uuid_Number F u = some (numb u) := by
  obtain ⟨h0, h1, l0, l1⟩ := hu
  unfold uuid_Number
  rw [ubytes, Option.bind_some, show uuid_bytes F (T_api_UUID.mk 4096 9223372588214596859) = some (251, 52, 155, 95, 128, 0, 0, 128, 0, 16, 0, 0, 0, 0, 0, 0) from by rw [ubytes]; rfl, Option.bind_some]
  unfold uuid_Number_j1 numb
  by_cases h : u.Low = 9223372588214596859 ∧ u.High % 4294967296 = 4096 ∧ u.High / 4294967296 < 65536
  · rw [if_pos h]
    obtain ⟨h2, h3, h4⟩ := h
    rw [if_neg (by
      rw [Bool.not_eq_true']
      simp only [Bool.not_eq_false, Bool.and_eq_true, beq_iff_eq]
      refine ⟨by omega, by omega, by omega, by omega, by omega, by omega, by omega, by omega, by omega, by omega, by omega, by omega, trivial, trivial, by omega, by omega⟩)]
    simp only
    rw [word16 ⟨by omega, by omega⟩ ⟨by omega, by omega⟩]
    congr 2
    omega
  · rw [if_neg h, if_pos (by
      rw [Bool.not_eq_true', Bool.eq_false_iff]
      intro hc
      simp only [Bool.and_eq_true, beq_iff_eq] at hc
      exact h (by omega))]
theorem rnumber (F : Nat) {u : T_api_UUID} (hu : UOk u) : wirelessref41_Number F u = some (numb u) := by
  obtain ⟨h0, h1, l0, l1⟩ := hu
  unfold wirelessref41_Number numb
  have e : quop .u64 u.High 4294967296 = u.High / 4294967296 := by
    unfold quop
    rw [Int.tdiv_eq_ediv_of_nonneg h0, wrap_u64, wu64_id (by omega) (by omega)]
  rw [e]
  by_cases hb : u.High / 4294967296 > 65535
  · rw [if_pos (by simpa using hb), if_neg (by omega)]
    rfl
  · rw [if_neg (by simpa using hb), wu16_id (by omega) (by omega), rshort _ _ (by omega) (by omega), Option.bind_some]
    unfold wirelessref41_Number_j1 sht
    simp only
    by_cases h : u.Low = 9223372588214596859 ∧ u.High % 4294967296 = 4096 ∧ u.High / 4294967296 < 65536
    · rw [if_pos h, if_neg (by
        rw [Bool.not_eq_true']
        simp only [Bool.not_eq_false, Bool.and_eq_true, beq_iff_eq]
        omega), e, wu16_id (by omega) (by omega)]
    · rw [if_neg h, if_pos (by
        rw [Bool.not_eq_true', Bool.eq_false_iff]
        intro hc
        simp only [Bool.and_eq_true, beq_iff_eq] at hc
        exact h (by omega))]
/-- The type of a number. -/
def isN (u : T_api_UUID) (n : Int) : Bool := u.High == n * 4294967296 + 4096 && u.Low == 9223372588214596859
theorem isN_sh {m n : Int} : isN (sht m) n = (m == n) := by
  unfold isN sht
  simp only
  by_cases h : m = n
  · subst h; simp
  · rw [beq_false_of_ne h, beq_false_of_ne (by omega)]; rfl
theorem isN_eq {u : T_api_UUID} {n : Int} (h : isN u n = true) : u = sht n := by
  unfold isN at h
  simp only [Bool.and_eq_true, beq_iff_eq] at h
  cases u
  simp only [sht] at h ⊢
  rw [h.1, h.2]
theorem isN_num {u : T_api_UUID} {n : Int} (h0 : 0 ≤ n) (h1 : n < 65536) : ((numb u).2 && (n == (numb u).1)) = isN u n := by
  unfold numb isN
  by_cases h : u.Low = 9223372588214596859 ∧ u.High % 4294967296 = 4096 ∧ u.High / 4294967296 < 65536
  · rw [if_pos h]
    obtain ⟨h2, h3, h4⟩ := h
    by_cases hn : n = u.High / 4294967296
    · simp only [Bool.true_and]
      rw [show (n == u.High / 4294967296) = true from by simpa using hn, show (u.High == n * 4294967296 + 4096) = true from by simp; omega, show (u.Low == 9223372588214596859) = true from by simpa using h2]
      rfl
    · simp only [Bool.true_and]
      rw [beq_false_of_ne hn, beq_false_of_ne (by omega)]
      rfl
  · rw [if_neg h]
    simp only [Bool.false_and]
    symm
    rw [Bool.eq_false_iff]
    intro hc
    simp only [Bool.and_eq_true, beq_iff_eq] at hc
    exact h (by omega)
theorem index_ok (F : Nat) (l : List Int) (v : Int) (hF : l.length < F) (hl : l.length ≤ 1000) : slices_Index_uint16_uint16 F l v = some (match l.findIdx? (fun x => v == x) with | some k => (k : Int) | none => -1) := by
  unfold slices_Index_uint16_uint16
  have := iter_find (body := fun s => slices_Index_uint16_uint16_l1 F l v s) (fun i => (i : Int)) (l := l) (p := fun x => v == x) (g := fun k => Sum.inr (k : Int)) (e := Sum.inl ()) (by
    intro i x hx
    have hi := (List.getElem?_eq_some_iff.1 hx).1
    show slices_Index_uint16_uint16_l1 F l v i = _
    unfold slices_Index_uint16_uint16_l1
    rw [if_pos (by simp [len]; omega), idx_nat, hx, Option.bind_some, w64_nat i (by omega)]
    split <;> rfl) (by
    show slices_Index_uint16_uint16_l1 F l v _ = _
    unfold slices_Index_uint16_uint16_l1
    rw [if_neg (by simp [len])]) F 0 (by omega) (by omega)
  rw [show ((0 : Nat) : Int) = 0 from rfl] at this
  rw [this, Option.bind_some, List.drop_zero]
  cases l.findIdx? (fun x => v == x) with
  | none => rfl
  | some k => simp
theorem contains_ok (F : Nat) (l : List Int) (v : Int) (hF : l.length < F) (hl : l.length ≤ 1000) : slices_Contains_uint16_uint16 F l v = some (l.any fun x => v == x) := by
  unfold slices_Contains_uint16_uint16
  rw [index_ok F l v hF hl, Option.bind_some]
  congr 1
  cases h : l.findIdx? (fun x => v == x) with
  | none =>
    rw [List.findIdx?_eq_none_iff] at h
    symm
    simp only [decide_eq_false (show ¬ ((-1 : Int) ≥ 0) by omega)]
    rw [List.any_eq_false]
    intro x hx
    rw [h x hx]
    decide
  | some k =>
    have := List.findIdx?_eq_some_iff_getElem.1 h
    obtain ⟨hk, hp, _⟩ := this
    symm
    rw [decide_eq_true (show (k : Int) ≥ 0 by omega), List.any_eq_true]
    exact ⟨_, List.getElem_mem hk, hp⟩
theorem is_ok (F : Nat) {u : T_api_UUID} (hu : UOk u) (l : List Int) (hF : l.length < F) (hl : l.length ≤ 1000) (hb : ∀ n ∈ l, 0 ≤ n ∧ n < 65536) : database_is F u l = some (l.any (isN u)) := by
  unfold database_is
  rw [unumber F hu, Option.bind_some]
  have e : ((numb u).2 && l.any fun x => (numb u).1 == x) = l.any (isN u) := by
    induction l with
    | nil => simp
    | cons n r ih =>
      have h1 := isN_num (u := u) (hb n (by simp)).1 (hb n (by simp)).2
      rw [List.any_cons, List.any_cons, ← h1, ← ih (by simp at hF; omega) (by simp at hl; omega) fun m hm => hb m (by simp [hm])]
      rw [Bool.and_or_distrib_left, show ((numb u).1 == n) = (n == (numb u).1) from by rw [Bool.eq_iff_iff, beq_iff_eq, beq_iff_eq]; exact eq_comm]
  by_cases h : (numb u).2 = true
  · rw [if_pos h, contains_ok F l _ hF hl, Option.bind_some, Option.bind_some, ← e, h, Bool.true_and]
  · rw [if_neg h, Option.bind_some, ← e, (Bool.not_eq_true _).mp h, Bool.false_and]
def isv (u : T_api_UUID) : Bool := isN u 10240 || isN u 10241
def decl (u : T_api_UUID) : Bool := isv u || (isN u 10242 || isN u 10243)
def resv (u : T_api_UUID) : Bool := decl u || isN u 10498
theorem is1 (F : Nat) {u : T_api_UUID} (hu : UOk u) (n : Int) (hF : 10 < F) (h0 : 0 ≤ n) (h1 : n < 65536) : database_is F u [n] = some (isN u n) := by
  rw [is_ok F hu [n] (by simp; omega) (by simp) (by simp; omega)]
  simp
theorem service_ok (F : Nat) {u : T_api_UUID} (hu : UOk u) (hF : 10 < F) : database_service F u = some (isv u) := by
  unfold database_service isv
  rw [is_ok F hu [10240, 10241] (by simp; omega) (by simp) (by intro n hn; simp at hn; omega)]
  simp
theorem declaration_ok (F : Nat) {u : T_api_UUID} (hu : UOk u) (hF : 10 < F) : database_declaration F u = some (decl u) := by
  unfold database_declaration decl
  rw [service_ok F hu hF, Option.bind_some, is_ok F hu [10242, 10243] (by simp; omega) (by simp) (by intro n hn; simp at hn; omega)]
  cases isv u <;> simp
theorem reserved_ok (F : Nat) {u : T_api_UUID} (hu : UOk u) (hF : 10 < F) : database_reserved F u = some (resv u) := by
  unfold database_reserved resv
  rw [declaration_ok F hu hF, Option.bind_some, is1 F hu 10498 hF (by decide) (by decide)]
  cases decl u <;> simp
theorem rIs (F : Nat) (u : T_api_UUID) (n : Int) (h0 : 0 ≤ n) (h1 : n < 65536) : wirelessref43_Is F u n = some (isN u n) := by
  unfold wirelessref43_Is
  rw [rshort F n h0 h1]
  rfl
theorem rIsService (F : Nat) (a : T_api_Attribute) : wirelessref43_IsService F a = some (isv a.f_Type) := by
  unfold wirelessref43_IsService isv
  rw [rIs F _ _ (by decide) (by decide), rIs F _ _ (by decide) (by decide), Option.bind_some]
  cases isN a.f_Type 10240 <;> simp
theorem rIsChar (F : Nat) (a : T_api_Attribute) : wirelessref43_IsChar F a = some (isN a.f_Type 10243) := by
  unfold wirelessref43_IsChar
  rw [rIs F _ _ (by decide) (by decide), Option.bind_some]
theorem rdeclares (F : Nat) (u : T_api_UUID) : wirelessref43_declares F u = some (decl u) := by
  unfold wirelessref43_declares decl isv
  simp only [rIs F u 10240 (by decide) (by decide), rIs F u 10241 (by decide) (by decide), rIs F u 10242 (by decide) (by decide), rIs F u 10243 (by decide) (by decide), Option.bind_some]
  cases isN u 10240 <;> cases isN u 10241 <;> cases isN u 10242 <;> simp
theorem rkept (F : Nat) (u : T_api_UUID) : wirelessref43_kept F u = some (resv u) := by
  unfold wirelessref43_kept resv
  rw [rdeclares, Option.bind_some, rIs F _ _ (by decide) (by decide)]
  cases decl u <;> simp

/-! ### Decode -/
def UZ : T_api_UUID := T_api_UUID.mk 0 0
def decU (b : List Int) : T_api_UUID × Int :=
  if b.length = 2 then (sht (num b), 0)
  else if b.length < 16 then (UZ, 3)
  else if b.length > 16 then (UZ, 2)
  else if (numb (T_api_UUID.mk (num (b.drop 8)) (num (b.take 8)))).2 = true then (UZ, 2)
  else (T_api_UUID.mk (num (b.drop 8)) (num (b.take 8)), 0)
theorem num2 (x y : Int) : num [x, y] = x + 256 * y := by simp [num]
theorem uok16 {b : List Int} (hb : ∀ x ∈ b, Byte x) (hl : b.length = 16) : UOk (T_api_UUID.mk (num (b.drop 8)) (num (b.take 8))) := by
  have h1 : ∀ x ∈ b.drop 8, Byte x := fun x hx => hb x (List.mem_of_mem_drop hx)
  have h2 : ∀ x ∈ b.take 8, Byte x := fun x hx => hb x (List.mem_of_mem_take hx)
  have h3 := num_lt h1
  have h4 := num_lt h2
  rw [show (b.drop 8).length = 8 from by simp [hl]] at h3
  rw [show (b.take 8).length = 8 from by simp [hl]] at h4
  exact ⟨num_nonneg h1, h3, num_nonneg h2, h4⟩
theorem decU_ok {b : List Int} (hb : ∀ x ∈ b, Byte x) : UOk (decU b).1 := by
  have hz : UOk UZ := ⟨by decide, by decide, by decide, by decide⟩
  unfold decU
  split
  · rename_i h
    match b, h, hb with
    | [x, y], _, hb =>
      have hx := hb x (by simp)
      have hy := hb y (by simp)
      obtain ⟨x0, x1⟩ := hx
      obtain ⟨y0, y1⟩ := hy
      rw [num2]
      exact sht_ok (by omega) (by omega)
  · split
    · exact hz
    · split
      · exact hz
      · split
        · exact hz
        · exact uok16 hb (by omega)
theorem rdecode (F : Nat) {b : List Int} (hb : ∀ x ∈ b, Byte x) (hF : 20 < F) : wirelessref41_Decode F b = some (decU b) := by
  unfold wirelessref41_Decode decU
  by_cases h2 : b.length = 2
  · rw [if_pos (show (len b == 2) = true from by simp [len]; omega), if_pos h2]
    match b, h2, hb with
    | [x, y], _, hb =>
      have h := rnum_ok F [x, y] [x, y] 0 (by simp; omega) hb (by simp) (by omega) (by simp)
      have hx := hb x (by simp)
      have hy := hb y (by simp)
      obtain ⟨x0, x1⟩ := hx
      obtain ⟨y0, y1⟩ := hy
      have h' : wirelessref23_Num F [x, y] 0 2 = some (num [x, y]) := h
      rw [h', Option.bind_some]
      rw [num2, wu16_id (by omega) (by omega), rshort F _ (by omega) (by omega), Option.bind_some]
  · rw [if_neg (show ¬ (len b == 2) = true from by simp [len]; omega), if_neg h2]
    by_cases h16 : b.length < 16
    · rw [if_pos (decide_eq_true (show len b < 16 by rw [len_nat]; omega)), if_pos h16]; rfl
    · rw [if_neg (df (show ¬ len b < 16 by rw [len_nat]; omega)), if_neg h16]
      by_cases h17 : b.length > 16
      · rw [if_pos (decide_eq_true (show len b > 16 by rw [len_nat]; omega)), if_pos h17]; rfl
      · rw [if_neg (df (show ¬ len b > 16 by rw [len_nat]; omega)), if_neg h17]
        have hl : b.length = 16 := by omega
        have h1 : ∀ x ∈ b.drop 8, Byte x := fun x hx => hb x (List.mem_of_mem_drop hx)
        have h2 : ∀ x ∈ b.take 8, Byte x := fun x hx => hb x (List.mem_of_mem_take hx)
        have e1 : (b.drop 8).length = 8 := by simp [hl]
        have e2 : (b.take 8).length = 8 := by simp [hl]
        have a := rnum_ok F b (b.take 8) 0 (by omega) h2 (by omega) (by omega) (by
          intro i hi
          rw [List.getElem?_take, if_pos (by omega), Nat.zero_add])
        have c := rnum_ok F b (b.drop 8) 8 (by omega) h1 (by omega) (by omega) (by
          intro i hi
          rw [List.getElem?_drop])
        rw [e2] at a
        rw [e1] at c
        have a' : wirelessref23_Num F b 0 8 = some (num (b.take 8)) := a
        have c' : wirelessref23_Num F b 8 8 = some (num (b.drop 8)) := c
        rw [a', Option.bind_some, c', Option.bind_some, rnumber F (uok16 hb hl), Option.bind_some]
        split <;> rfl
theorem ior_num {b : List Int} {i : Nat} (hb : ∀ x ∈ b, Byte x) (hi : i < 8) (x : Int) (hx : b[i]? = some x) : ior .u64 (num (b.take i)) (x * 256 ^ i) = num (b.take (i + 1)) := by
  have hl : (b.take i).length = i := by
    have := (List.getElem?_eq_some_iff.1 hx).1
    simp; omega
  have ht : ∀ x ∈ b.take i, Byte x := fun x hx => hb x (List.mem_of_mem_take hx)
  have h1 := num_lt ht
  rw [hl] at h1
  rw [ior_add _ _ i hi (num_nonneg ht) h1 (hb x (List.mem_of_getElem? hx)), List.take_add_one, hx, num_append, hl]
  simp only [Option.toList_some, num]
  rw [Int.mul_zero, Int.add_zero, Int.mul_comm]
theorem udecode (F : Nat) {b : List Int} (hb : ∀ x ∈ b, Byte x) (hF : 20 < F) : uuid_Decode F b = some (decU b) := by
  unfold uuid_Decode decU
  by_cases h2 : b.length = 2
  · rw [if_pos (show (len b == 2) = true from by simp [len]; omega), if_pos h2]
    match b, h2, hb with
    | [x, y], _, hb =>
      have hx := hb x (by simp)
      have hy := hb y (by simp)
      rw [show idx [x, y] 0 = some x from rfl, show idx [x, y] 1 = some y from rfl, Option.bind_some, Option.bind_some, word16 hx hy, num2]
      obtain ⟨x0, x1⟩ := hx
      obtain ⟨y0, y1⟩ := hy
      rw [ushort F _ (by omega) (by omega), Option.bind_some]
      rfl
  · rw [if_neg (show ¬ (len b == 2) = true from by simp [len]; omega), if_neg h2]
    by_cases h16 : b.length < 16
    · rw [if_pos (decide_eq_true (show len b < 16 by rw [len_nat]; omega)), if_pos h16]; rfl
    · rw [if_neg (df (show ¬ len b < 16 by rw [len_nat]; omega)), if_neg h16]
      by_cases h17 : b.length > 16
      · rw [if_pos (decide_eq_true (show len b > 16 by rw [len_nat]; omega)), if_pos h17]; rfl
      · rw [if_neg (df (show ¬ len b > 16 by rw [len_nat]; omega)), if_neg h17]
        have hl : b.length = 16 := by omega
        have h1 : ∀ x ∈ b.drop 8, Byte x := fun x hx => hb x (List.mem_of_mem_drop hx)
        have := iter_count (body := fun s : T_api_UUID × Int => uuid_Decode_l1 F b s.1 s.2) (fun i => (T_api_UUID.mk (num ((b.drop 8).take i)) (num (b.take i)), (i : Int))) 8 (T_api_UUID.mk (num (b.drop 8)) (num (b.take 8))) (by
          intro i hi
          have hx : b[i]? = some b[i] := List.getElem?_eq_getElem (by omega)
          have hy : b[8 + i]? = some b[8 + i] := List.getElem?_eq_getElem (by omega)
          have hy' : (b.drop 8)[i]? = some b[8 + i] := by rw [List.getElem?_drop]; exact hy
          show uuid_Decode_l1 F b _ (i : Int) = _
          unfold uuid_Decode_l1
          rw [if_pos (by simp; omega), idx_nat, hx, Option.bind_some, shl_bytes (hb _ (List.mem_of_getElem? hx)) i hi, Option.bind_some]
          unfold uuid_Decode_j3
          rw [w64_id (x := 8 + (i : Int)) (by omega) (by omega), show (8 : Int) + i = ((8 + i : Nat) : Int) from by omega, idx_nat, hy, Option.bind_some, shl_bytes (hb _ (List.mem_of_getElem? hy)) i hi, Option.bind_some, w64_nat i (by omega)]
          simp only
          rw [ior_num hb hi _ hx, ior_num h1 hi _ hy']) (by
          show uuid_Decode_l1 F b _ ((8 : Nat) : Int) = _
          unfold uuid_Decode_l1
          rw [if_neg (by simp), show (b.drop 8).take 8 = b.drop 8 from List.take_of_length_le (by simp [hl])]) F 0 (by omega) (by omega)
        rw [List.take_zero, List.take_zero] at this
        have h0 : ((T_api_UUID.mk (num []) (num []), ((0 : Nat) : Int)) : T_api_UUID × Int) = (T_api_UUID.mk 0 0, 0) := rfl
        rw [h0] at this
        rw [this, Option.bind_some]
        unfold uuid_Decode_j2
        rw [unumber F (uok16 hb hl), Option.bind_some]
        split <;> rfl
end V
end Go.Proofs.Ytchlimkophmjlaa
