/-
  Numbers and bytes: what the functions of octets, and Put and Num of the reference, compute.
-/
import Derived.Test.YtpcckohcoajenaaLoop
import Derived.Test.YtpcckohcoajenaaFn
import Derived.KernelRfl
namespace Go.Proofs.Ytpcckohcoajenaa
namespace V
def FF : Nat := 1125899906842624
def Byte (x : Int) : Prop := 0 ≤ x ∧ x < 256
/-- The bytes of a number, low ones first; the number of bytes. -/
def leb : Nat → Int → List Int
  | 0, _ => []
  | k + 1, n => n % 256 :: leb k (n / 256)
def num : List Int → Int
  | [] => 0
  | b :: r => b + 256 * num r
theorem leb_length : ∀ k n, (leb k n).length = k
  | 0, _ => rfl
  | k + 1, n => by simp [leb, leb_length k]
theorem leb_byte : ∀ k n, ∀ x ∈ leb k n, Byte x
  | 0, _, x, h => by cases h
  | k + 1, n, x, h => by
    rcases List.mem_cons.1 h with rfl | h
    · exact ⟨Int.emod_nonneg _ (by decide), Int.emod_lt_of_pos _ (by decide)⟩
    · exact leb_byte k _ x h
theorem pow_succ256 (k : Nat) : (256 : Int) ^ (k + 1) = 256 * 256 ^ k := by rw [Int.pow_succ, Int.mul_comm]
theorem pow_pos256 (k : Nat) : (0 : Int) < 256 ^ k := Int.pow_pos (by decide)
theorem leb_snoc : ∀ (k : Nat) (n : Int), leb (k + 1) n = leb k n ++ [n / 256 ^ k % 256]
  | 0, n => by simp [leb]
  | k + 1, n => by
    have := leb_snoc k (n / 256)
    rw [leb, this, leb, List.cons_append, pow_succ256, Int.ediv_ediv_of_nonneg (by decide : (0 : Int) ≤ 256)]
theorem num_leb : ∀ (k : Nat) (n : Int), num (leb k n) = n % 256 ^ k
  | 0, n => by simp [leb, num, Int.emod_one]
  | k + 1, n => by
    rw [leb, num, num_leb k, pow_succ256, ← Int.emod_add_mul_ediv (n % (256 * 256 ^ k)) 256]
    have h1 : n % (256 * 256 ^ k) % 256 = n % 256 := Int.emod_emod_of_dvd _ (Int.dvd_mul_right ..)
    have h2 : n % (256 * 256 ^ k) / 256 = n / 256 % 256 ^ k := by
      have := pow_pos256 k
      rw [Int.emod_def, Int.emod_def (n / 256), ← Int.ediv_ediv_of_nonneg (by decide : (0 : Int) ≤ 256), Int.mul_assoc, Int.sub_mul_ediv_left _ _ (by decide)]
    rw [h1, h2]
theorem num_nonneg : ∀ {l : List Int}, (∀ x ∈ l, Byte x) → 0 ≤ num l
  | [], _ => by simp [num]
  | b :: r, h => by
    have h1 := (h b (by simp)).1
    have h2 := num_nonneg (l := r) fun x hx => h x (by simp [hx])
    simp only [num]; omega
theorem num_lt : ∀ {l : List Int}, (∀ x ∈ l, Byte x) → num l < 256 ^ l.length
  | [], _ => by simp [num]
  | b :: r, h => by
    have h1 := (h b (by simp)).2
    have h2 := num_lt (l := r) fun x hx => h x (by simp [hx])
    simp only [num, List.length_cons, pow_succ256]; omega
theorem leb_num : ∀ {l : List Int}, (∀ x ∈ l, Byte x) → leb l.length (num l) = l
  | [], _ => rfl
  | b :: r, h => by
    obtain ⟨h0, h1⟩ := h b (by simp)
    have hr := leb_num (l := r) fun x hx => h x (by simp [hx])
    simp only [List.length_cons, leb, num]
    rw [show (b + 256 * num r) % 256 = b from by omega, show (b + 256 * num r) / 256 = num r from by omega, hr]
theorem num_append : ∀ (l m : List Int), num (l ++ m) = num l + 256 ^ l.length * num m
  | [], m => by simp [num]
  | b :: r, m => by
    simp only [List.cons_append, num, List.length_cons, pow_succ256, num_append r m, Int.mul_add, Int.mul_assoc]
    omega

/-! ### The reference's numbers -/
theorem tmod256 {n : Int} (h : 0 ≤ n) : n.tmod 256 = n % 256 := Int.tmod_eq_emod_of_nonneg h
theorem tdiv256 {n : Int} (h : 0 ≤ n) : n.tdiv 256 = n / 256 := Int.tdiv_eq_ediv_of_nonneg h
theorem app_cat {l m : List Int} (h : l.length + m.length ≤ 140737488355328) : app 1 l m = some (l ++ m) := by
  rw [app_small (by omega) (by omega)]
theorem rput_step (F : Nat) (size n i : Int) (l : List Int) (h0 : 0 ≤ n) (h1 : n < 18446744073709551616) (hl : l.length ≤ 1000000) (hi : 0 ≤ i ∧ i < 1000) (hs : i < size) : wirelessref23_Put_l1 F size n l i = some (.next (n / 256, l ++ [n % 256], i + 1)) := by
  unfold wirelessref23_Put_l1
  rw [if_pos (by simpa using hs)]
  simp only [irem, iquo, if_neg (show ¬ ((256 : Int) = 0) by decide), Option.bind_some, tmod256 h0, tdiv256 h0, wrap_u64]
  rw [wu8_id (by omega) (by omega), app_cat (by simp; omega)]
  simp only [Option.bind_some]
  rw [wu64_id (by omega) (by omega), w64_id (by omega) (by omega)]
theorem rput_ok (F : Nat) (n : Int) (k : Nat) (hF : k < F) (hk : k ≤ 8) (h0 : 0 ≤ n) (h1 : n < 18446744073709551616) : wirelessref23_Put F n k = some (leb k n) := by
  have gen : ∀ (m F : Nat) (n i : Int) (l : List Int), 0 ≤ n → n < 18446744073709551616 → l.length ≤ 1000 - m → m ≤ 8 → 0 ≤ i → i + m = k → m < F → iter (fun s => wirelessref23_Put_l1 F (k : Int) s.1 s.2.1 s.2.2) F (n, l, i) = some (l ++ leb m n) := by
    intro m
    intro F
    have key : ∀ (m f : Nat) (n i : Int) (l : List Int), 0 ≤ n → n < 18446744073709551616 → l.length ≤ 1000 - m → m ≤ 8 → 0 ≤ i → i + m = k → m < f → iter (fun s => wirelessref23_Put_l1 F (k : Int) s.1 s.2.1 s.2.2) f (n, l, i) = some (l ++ leb m n) := by
      intro m
      induction m with
      | zero =>
        intro f n i l h0 h1 hl hm hi hik hf
        cases f with
        | zero => omega
        | succ f =>
          rw [iter_stop (o := l) (by unfold wirelessref23_Put_l1; rw [if_neg (by simp; omega)])]
          simp [leb]
      | succ m ih =>
        intro f n i l h0 h1 hl hm hi hik hf
        cases f with
        | zero => omega
        | succ f =>
          rw [iter_step (rput_step F k n i l h0 h1 (by omega) (by omega) (by omega)), ih f (n / 256) (i + 1) (l ++ [n % 256]) (by omega) (by omega) (by simp; omega) (by omega) (by omega) (by omega) (by omega)]
          simp [leb]
    exact key m F
  unfold wirelessref23_Put
  rw [gen k F n 0 [] h0 h1 (by simp) hk (by omega) (by omega) hF]
  simp [wirelessref23_Put_j1]
theorem rnum_ok (F : Nat) (b m : List Int) (at_ : Nat) (hF : m.length < F) (hb : ∀ x ∈ m, Byte x) (hm : m.length ≤ 8) (hat : at_ ≤ 1000000) (h : ∀ i, i < m.length → b[at_ + i]? = m[i]?) : wirelessref23_Num F b at_ (m.length : Int) = some (num m) := by
  have key : ∀ (k f : Nat) (r : List Int), r.length + k = m.length → (∀ i, i < r.length → m[k + i]? = r[i]?) → k < f → iter (fun s => wirelessref23_Num_l1 F b at_ s.1 s.2) f (num r, (k : Int) - 1) = some (num (m.take k ++ r)) := by
    intro k
    induction k with
    | zero =>
      intro f r hr _ hf
      cases f with
      | zero => omega
      | succ f =>
        rw [iter_stop (o := num r) (by unfold wirelessref23_Num_l1; rw [if_neg (by simp)])]
        simp
    | succ k ih =>
      intro f r hr hri hf
      cases f with
      | zero => omega
      | succ f =>
        have hk : k < m.length := by omega
        have hx : m[k]? = some m[k] := List.getElem?_eq_getElem hk
        have hbx := hb m[k] (List.getElem_mem hk)
        have hrb : ∀ x ∈ r, Byte x := by
          intro x hx
          obtain ⟨i, hi⟩ := List.getElem?_of_mem hx
          have hil := (List.getElem?_eq_some_iff.1 hi).1
          rw [← hri i hil] at hi
          exact hb x (List.mem_of_getElem? hi)
        have hn0 := num_nonneg hrb
        have hn1 := num_lt hrb
        have hpow : (256 : Int) ^ r.length ≤ 256 ^ 7 := by
          have h2 : (256 : Nat) ^ r.length ≤ 256 ^ 7 := Nat.pow_le_pow_right (by decide) (by omega)
          have h3 : ((256 ^ r.length : Nat) : Int) ≤ ((256 ^ 7 : Nat) : Int) := Int.ofNat_le.2 h2
          rw [Int.natCast_pow, Int.natCast_pow] at h3
          exact h3
        have hidx : idx b (w64 ((at_ : Int) + ((k + 1 : Nat) - 1 : Int))) = some m[k] := by
          rw [show (at_ : Int) + (((k + 1 : Nat) : Int) - 1) = ((at_ + k : Nat) : Int) from by omega, w64_id (by omega) (by omega), idx_nat, h k hk, hx]
        have hstep : wirelessref23_Num_l1 F b at_ (num r) (((k + 1 : Nat) : Int) - 1) = some (.next (num (m[k] :: r), (k : Int) - 1)) := by
          unfold wirelessref23_Num_l1
          rw [if_pos (by simp), hidx]
          simp only [Option.bind_some, num]
          obtain ⟨hb0, hb1⟩ := hbx
          rw [wu64_id (x := num r * 256) (by omega) (by omega), wu64_id (x := m[k]) (by omega) (by omega), wu64_id (by omega) (by omega), w64_id (by omega) (by omega)]
          congr 3 <;> omega
        rw [iter_step hstep, ih f (m[k] :: r) (by simp; omega) (by
          intro i hi
          cases i with
          | zero => simp
          | succ i =>
            have := hri i (by simp at hi; omega)
            rw [show k + (i + 1) = k + 1 + i from by omega]
            simpa using this) (by omega)]
        rw [List.take_add_one, hx, List.append_assoc]
        rfl
  unfold wirelessref23_Num
  rw [w64_id (by omega) (by omega)]
  have := key m.length F [] (by simp) (by simp) hF
  simp only [num, List.take_length, List.append_nil] at this
  rw [this]
  rfl
theorem str_bytes : ∀ {l : List Int}, (∀ x ∈ l, Byte x) → str l = l
  | [], _ => rfl
  | b :: r, h => by
    obtain ⟨h0, h1⟩ := h b (by simp)
    have hr := str_bytes (l := r) fun x hx => h x (by simp [hx])
    unfold str at hr ⊢
    rw [List.map_cons, hr]
    congr 1
    have : (UInt8.ofNat b.toNat).toNat = b.toNat := by
      simp
      omega
    rw [this]
    omega
theorem same_refl (F : Nat) (l : List Int) : wirelessref23_Same F l l = some true := by simp [wirelessref23_Same]
theorem same_eq (F : Nat) {l m : List Int} (h : l = m) : wirelessref23_Same F l m = some true := by rw [h]; exact same_refl F m

/-! ### octets -/
theorem join_step (F : Nat) (ps : List (List Int)) (l : List Int) (i : Nat) (x : List Int) (hx : ps[i]? = some x) (hl : l.length + x.length ≤ 140737488355328) (hi : ps.length ≤ 9000000000000000000) : octets_Join_l1 F ps l i = some (.next (l ++ x, ((i + 1 : Nat) : Int))) := by
  have hlt : i < ps.length := (List.getElem?_eq_some_iff.1 hx).1
  unfold octets_Join_l1
  have hd : decide ((i : Int) < len ps) = true := by simp [len]; omega
  rw [if_pos hd, idx_nat, hx]
  simp only [Option.bind_some]
  rw [app_cat hl]
  simp only [Option.bind_some]
  rw [w64_nat i (by omega)]
theorem join_two (F : Nat) (a b : List Int) (hF : 2 < F) (h : a.length + b.length ≤ 140737488355328) : octets_Join F [a, b] = some (a ++ b) := by
  unfold octets_Join
  obtain ⟨F', rfl⟩ : ∃ F', F = F' + 1 + 1 + 1 := ⟨F - 3, by omega⟩
  have h1 : octets_Join_l1 (F' + 1 + 1 + 1) [a, b] [] 0 = some (.next (a, 1)) := by simpa using join_step (F' + 1 + 1 + 1) [a, b] [] 0 a rfl (by simp; omega) (by simp)
  have h2 : octets_Join_l1 (F' + 1 + 1 + 1) [a, b] a 1 = some (.next (a ++ b, 2)) := by simpa using join_step (F' + 1 + 1 + 1) [a, b] a 1 b rfl (by omega) (by simp)
  rw [iter_step h1, iter_step h2, iter_stop (o := a ++ b) (by unfold octets_Join_l1; rw [if_neg (by simp [len])])]
  rfl
theorem join_one (F : Nat) (a : List Int) (hF : 1 < F) (h : a.length ≤ 140737488355328) : octets_Join F [a] = some a := by
  unfold octets_Join
  obtain ⟨F', rfl⟩ : ∃ F', F = F' + 1 + 1 := ⟨F - 2, by omega⟩
  have h1 : octets_Join_l1 (F' + 1 + 1) [a] [] 0 = some (.next (a, 1)) := by simpa using join_step (F' + 1 + 1) [a] [] 0 a rfl (by simp; omega) (by simp)
  rw [iter_step h1, iter_stop (o := a) (by unfold octets_Join_l1; rw [if_neg (by simp [len])])]
  rfl
theorem shr_bytes {v : Int} (i : Nat) (hi : i ≤ 8) (_h0 : 0 ≤ v) : ishr .u64 v (w64 (8 * i)) = some (v / 256 ^ i) := by
  rw [w64_id (by omega) (by omega)]
  unfold ishr
  rw [if_neg (by omega)]
  have h1 : min (8 * (i : Int)).toNat IntKind.u64.bits = 8 * i := by
    show min (8 * (i : Int)).toNat 64 = 8 * i
    omega
  rw [h1, show (2 : Int) ^ (8 * i) = 256 ^ i from by rw [Int.pow_mul]; rfl, Int.fdiv_eq_ediv_of_nonneg _ (Int.le_of_lt (pow_pos256 i))]
structure FieldOk (f : T_api_Field) : Prop where
  s0 : 1 ≤ f.Size
  s1 : f.Size ≤ 8
  v0 : 0 ≤ f.Value
  v1 : f.Value < 18446744073709551616
  v2 : f.Value < 256 ^ f.Size.toNat
theorem oput_in (F : Nat) (x : T_api_Field) (hx : FieldOk x) (l : List Int) (hl : l.length ≤ 1000000) (hF : 9 < F) : iter (fun s => octets_Put_l2 F x s.1 s.2) F (l, 0) = some (l ++ leb x.Size.toNat x.Value) := by
  obtain ⟨s0, s1, v0, v1, v2⟩ := hx
  have := iter_count (body := fun s : List Int × Int => octets_Put_l2 F x s.1 s.2) (fun i => (l ++ leb i x.Value, (i : Int))) x.Size.toNat (l ++ leb x.Size.toNat x.Value) (by
    intro i hi
    show octets_Put_l2 F x (l ++ leb i x.Value) i = _
    unfold octets_Put_l2
    rw [if_pos (by simp; omega), shr_bytes i (by omega) v0]
    simp only [Option.bind_some]
    rw [app_cat (by simp [leb_length]; omega)]
    simp only [Option.bind_some]
    rw [w64_nat i (by omega), leb_snoc, List.append_assoc]
    rfl) (by
    show octets_Put_l2 F x _ _ = _
    unfold octets_Put_l2
    rw [if_neg (by simp; omega)]) F 0 (by omega) (by omega)
  simpa [leb] using this
def putAll (fs : List T_api_Field) : List Int := (fs.map fun f => leb f.Size.toNat f.Value).flatten
theorem putAll_len : ∀ {fs : List T_api_Field}, (∀ f ∈ fs, FieldOk f) → (putAll fs).length ≤ 8 * fs.length
  | [], _ => by simp [putAll]
  | f :: fs, h => by
    have h1 := h f (by simp)
    have h2 := putAll_len (fs := fs) fun g hg => h g (by simp [hg])
    obtain ⟨s0, s1, _⟩ := h1
    simp only [putAll, List.map_cons, List.flatten_cons, List.length_append, leb_length, List.length_cons] at h2 ⊢
    omega
theorem oput_ok (F : Nat) (fs : List T_api_Field) (h : ∀ f ∈ fs, FieldOk f) (hn : fs.length ≤ 1000) (hF : fs.length + 9 < F) : octets_Put F fs = some (putAll fs, 0) := by
  unfold octets_Put
  have := iter_count (body := fun s : List Int × Int => octets_Put_l1 F fs s.1 s.2) (fun i => (putAll (fs.take i), (i : Int))) fs.length (.inl (putAll fs)) (by
    intro i hi
    have hx : fs[i]? = some fs[i] := List.getElem?_eq_getElem hi
    have hf := h fs[i] (List.getElem_mem hi)
    have hlen := putAll_len (fs := fs.take i) (fun f hf => h f (List.mem_of_mem_take hf))
    have htl : (fs.take i).length ≤ i := by simp; omega
    show octets_Put_l1 F fs (putAll (fs.take i)) i = _
    unfold octets_Put_l1
    rw [if_pos (by simp [len]; omega), idx_nat, hx]
    simp only [Option.bind_some, octets_sized]
    obtain ⟨s0, s1, v0, v1, v2⟩ := hf
    have hsz : (!(decide (fs[i].Size ≥ 1) && decide (fs[i].Size ≤ 8))) = false := by simp; omega
    rw [hsz]
    simp only [Bool.false_eq_true, if_false]
    have hz : ((if decide (fs[i].Size < 8) = true then (ishr IntKind.u64 fs[i].Value (w64 (8 * fs[i].Size))).bind fun x_16 => some (x_16 != 0) else some false)) = some false := by
      by_cases h8 : fs[i].Size < 8
      · rw [if_pos (by simpa using h8)]
        have := shr_bytes (v := fs[i].Value) fs[i].Size.toNat (by omega) v0
        rw [show ((fs[i].Size.toNat : Nat) : Int) = fs[i].Size from by omega] at this
        rw [this, Int.ediv_eq_zero_of_lt v0 v2]
        rfl
      · rw [if_neg (by simpa using h8)]
    rw [hz]
    simp only [Option.bind_some, Bool.false_eq_true, if_false]
    rw [oput_in F fs[i] ⟨s0, s1, v0, v1, v2⟩ _ (by omega) (by omega)]
    simp only [Option.bind_some, octets_Put_j2]
    rw [w64_nat i (by omega), List.take_add_one, hx]
    simp only [putAll, List.map_append, List.flatten_append, Option.toList_some, List.map_cons, List.map_nil, List.flatten_cons, List.flatten_nil, List.append_nil]) (by
    show octets_Put_l1 F fs _ _ = _
    unfold octets_Put_l1
    rw [if_neg (by simp [len]), List.take_length]) F 0 (by omega) (by omega)
  simp only [List.take_zero] at this
  have h0 : (putAll [], ((0 : Nat) : Int)) = (([] : List Int), (0 : Int)) := rfl
  rw [h0] at this
  rw [this]
  rfl

/-! ### Take -/
end V
end Go.Proofs.Ytpcckohcoajenaa
