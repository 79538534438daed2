/-
  FlashApplies: the law.
-/
import Derived.Test.YtojcklkcjnnkaaaDoorLoop
import Derived.Test.YtojcklkcjnnkaaaDoorFn
import Derived.KernelRfl
namespace Go.Proofs.YtojcklkcjnnkaaaDoor
namespace V
theorem dt {p : Prop} [Decidable p] (h : p) : decide p = true := decide_eq_true h
theorem df {p : Prop} [Decidable p] (h : ¬ p) : ¬ decide p = true := by simpa using h
def FF : Nat := 1125899906842624
theorem lives_ok : wirelesslaw39_lives FF = some true := by kernel_rfl
theorem iter_sim {S1 S2 O1 O2 : Type} {b1 : S1 → Option (Out S1 O1)} {b2 : S2 → Option (Out S2 O2)} (R : S1 → S2 → Prop) (Q : O1 → O2 → Prop) (m : S1 → Nat)
    (h : ∀ s1 s2, R s1 s2 → (∃ t1 t2, b1 s1 = some (.next t1) ∧ b2 s2 = some (.next t2) ∧ R t1 t2 ∧ m t1 < m s1) ∨ ∃ o1 o2, b1 s1 = some (.done o1) ∧ b2 s2 = some (.done o2) ∧ Q o1 o2) :
    ∀ (F : Nat) (s1 : S1) (s2 : S2), R s1 s2 → m s1 < F → ∃ o1 o2, iter b1 F s1 = some o1 ∧ iter b2 F s2 = some o2 ∧ Q o1 o2
  | 0, _, _, _, hF => by omega
  | F + 1, s1, s2, hR, hF => by
    rcases h s1 s2 hR with ⟨t1, t2, h1, h2, hR', hm⟩ | ⟨o1, o2, h1, h2, hq⟩
    · obtain ⟨o1, o2, h3, h4, hq⟩ := iter_sim R Q m h F t1 t2 hR' (by omega)
      exact ⟨o1, o2, by rw [iter_step h1, h3], by rw [iter_step h2, h4], hq⟩
    · exact ⟨o1, o2, iter_stop h1, iter_stop h2, hq⟩
theorem app_cat {l m : List Int} (h : l.length + m.length ≤ 140737488355328) : app 1 l m = some (l ++ m) := by
  rw [app_small (by omega) (by omega)]
theorem upd_nat {l : List Int} {i : Nat} {x : Int} (h : i < l.length) : upd l (i : Int) x = some (l.set i x) := by
  unfold upd
  rw [if_pos (by omega)]
  rfl
/-- What is done of a write. -/
def eff (n all : Int) : Int := if n < 0 ∨ n > all then all else n
def I64 (x : Int) : Prop := -9223372036854775808 ≤ x ∧ x < 9223372036854775808
theorem write1 (F : Nat) (w : T_api_Write) (n : Int) (b : List Int) (he : w.Erase = false) (hB : w.Bytes.length ≤ 4096) (hb : b.length ≤ 4096) (ho : I64 w.Offset) (hF : 10000 < F) :
    ∃ o, iter (fun s : List Int × Int => flash_Apply_l1 F w (eff n w.Bytes.length) s.1 s.2) F (b, 0) = some o ∧ iter (fun s : List Int × Int => wirelessref39_Apply_l1 F w n s.1 s.2) F (b, 0) = some o := by
  obtain ⟨o0, o1⟩ := ho
  obtain ⟨o1, o2, h1, h2, h3⟩ := iter_sim (b1 := fun s : List Int × Int => flash_Apply_l1 F w (eff n w.Bytes.length) s.1 s.2) (b2 := fun s : List Int × Int => wirelessref39_Apply_l1 F w n s.1 s.2)
    (fun s t => s = t ∧ s.1.length = b.length ∧ ∃ i : Nat, s.2 = (i : Int) ∧ i ≤ w.Bytes.length) (fun a b => a = b) (fun s => w.Bytes.length - s.2.toNat) (by
    rintro ⟨l, at_⟩ _ ⟨rfl, hl, i, hi, hil⟩
    simp only at hl hi
    subst hi
    show (∃ t1 t2, flash_Apply_l1 F w (eff n w.Bytes.length) l (i : Int) = some (.next t1) ∧ wirelessref39_Apply_l1 F w n l (i : Int) = some (.next t2) ∧ _) ∨ ∃ o1 o2, flash_Apply_l1 F w (eff n w.Bytes.length) l (i : Int) = some (.done o1) ∧ wirelessref39_Apply_l1 F w n l (i : Int) = some (.done o2) ∧ _
    unfold flash_Apply_l1 wirelessref39_Apply_l1 flash_Apply_j4 wirelessref39_Apply_j4 wirelessref39_Apply_j3
    have hn := len_nat l
    have hnB := len_nat w.Bytes
    by_cases hc : i < w.Bytes.length ∧ (n < 0 ∨ (i : Int) < n)
    · have hlt : (i : Int) < eff n w.Bytes.length := by
        unfold eff
        split <;> omega
      have hr : ((decide ((i : Int) < (len w.Bytes))) && ((decide (n < 0)) || (decide ((i : Int) < n)))) = true := by simp; omega
      rw [if_pos (dt hlt), he, if_neg (by decide : ¬ (false = true)), if_pos hr]
      have hx : w.Bytes[i]? = some w.Bytes[i] := List.getElem?_eq_getElem hc.1
      have hw1 := w64_nat i (by omega)
      by_cases ha : 0 ≤ w.Offset ∧ w.Offset < (l.length : Int) - i
      · have hwo : w64 (w.Offset + i) = w.Offset + i := w64_id (by omega) (by omega)
        have hwl : w64 (len l - i) = (l.length : Int) - i := by rw [hn]; exact w64_id (by omega) (by omega)
        obtain ⟨j, hj⟩ := Int.eq_ofNat_of_zero_le (a := w.Offset + i) (by omega)
        have hjl : j < l.length := by omega
        have hy : l[j]? = some l[j] := List.getElem?_eq_getElem hjl
        have q1 : (((decide (w.Offset < (len l))) && (decide ((j : Int) ≥ 0))) && (decide ((j : Int) < (len l)))) = true := by simp; omega
        have q2 : ((decide (w.Offset ≥ 0)) && (decide (w.Offset < (l.length : Int) - i))) = true := by simp; omega
        have q3 : ∀ z : List Int, ¬ (((decide (w.Offset < 0)) && (decide ((j : Int) ≥ 0))) && (decide ((j : Int) < (len z)))) = true := fun z => by simp; omega
        rw [hwo, hwl, hj, if_pos q1, if_pos q2]
        simp only [idx_nat, hx, hy, Option.bind_some, upd_nat hjl]
        rw [if_neg (q3 _), hw1]
        exact .inl ⟨_, _, rfl, rfl, ⟨rfl, by simp [hl], i + 1, rfl, by omega⟩, by simp only; omega⟩
      · by_cases hd : w.Offset < 0 ∧ 0 ≤ w.Offset + i ∧ w.Offset + i < l.length
        · have hwo : w64 (w.Offset + i) = w.Offset + i := w64_id (by omega) (by omega)
          obtain ⟨j, hj⟩ := Int.eq_ofNat_of_zero_le (a := w.Offset + i) (by omega)
          have hjl : j < l.length := by omega
          have hy : l[j]? = some l[j] := List.getElem?_eq_getElem hjl
          have q1 : (((decide (w.Offset < (len l))) && (decide ((j : Int) ≥ 0))) && (decide ((j : Int) < (len l)))) = true := by simp; omega
          have q2 : ¬ ((decide (w.Offset ≥ 0)) && (decide (w.Offset < w64 (len l - i)))) = true := by
            rw [decide_eq_false (by omega : ¬ w.Offset ≥ 0)]
            simp
          have q3 : (((decide (w.Offset < 0)) && (decide ((j : Int) ≥ 0))) && (decide ((j : Int) < (len l)))) = true := by simp; omega
          rw [hwo, hj, if_pos q1, if_neg q2, if_pos q3]
          simp only [idx_nat, hx, hy, Option.bind_some, upd_nat hjl]
          rw [hw1]
          exact .inl ⟨_, _, rfl, rfl, ⟨rfl, by simp [hl], i + 1, rfl, by omega⟩, by simp only; omega⟩
        · have hwl : w64 (len l - i) = (l.length : Int) - i := by rw [hn]; exact w64_id (by omega) (by omega)
          have hno : ¬ (((decide (w.Offset < (len l))) && (decide ((w64 (w.Offset + i)) ≥ 0))) && (decide ((w64 (w.Offset + i)) < (len l)))) = true := by
            by_cases h0 : w.Offset < len l
            · rw [w64_id (x := w.Offset + i) (by omega) (by omega)]
              simp
              omega
            · simp [h0]
          have hno2 : ¬ (((decide (w.Offset < 0)) && (decide ((w64 (w.Offset + i)) ≥ 0))) && (decide ((w64 (w.Offset + i)) < (len l)))) = true := by
            by_cases h0 : w.Offset < 0
            · rw [w64_id (x := w.Offset + i) (by omega) (by omega)]
              simp
              omega
            · simp [h0]
          have hno3 : ¬ ((decide (w.Offset ≥ 0)) && (decide (w.Offset < (l.length : Int) - i))) = true := by simp; omega
          rw [if_neg hno, hwl, if_neg hno3, if_neg hno2, hw1]
          exact .inl ⟨_, _, rfl, rfl, ⟨rfl, hl, i + 1, rfl, by omega⟩, by simp only; omega⟩
    · have hlt : ¬ (i : Int) < eff n w.Bytes.length := by
        unfold eff
        split <;> omega
      have hr : ¬ ((decide ((i : Int) < (len w.Bytes))) && ((decide (n < 0)) || (decide ((i : Int) < n)))) = true := by simp; omega
      rw [if_neg (df hlt), if_neg hr]
      exact .inr ⟨_, _, rfl, rfl, rfl⟩) F (b, 0) (b, 0) ⟨rfl, rfl, 0, rfl, by omega⟩ (by simp; omega)
  subst h3
  exact ⟨o1, h1, h2⟩
theorem erase1 (F : Nat) (w : T_api_Write) (n : Int) (b : List Int) (he : w.Erase = true) (hb : b.length ≤ 4096) (hF : 10000 < F) :
    ∃ o, iter (fun s : List Int × Int => flash_Apply_l1 F w (eff n b.length) s.1 s.2) F (b, 0) = some o ∧ iter (fun s : List Int × Int => wirelessref39_Apply_l2 F n s.1 s.2) F (b, 0) = some o := by
  obtain ⟨o1, o2, h1, h2, h3⟩ := iter_sim (b1 := fun s : List Int × Int => flash_Apply_l1 F w (eff n b.length) s.1 s.2) (b2 := fun s : List Int × Int => wirelessref39_Apply_l2 F n s.1 s.2)
    (fun s t => s = t ∧ s.1.length = b.length ∧ ∃ i : Nat, s.2 = (i : Int) ∧ i ≤ b.length) (fun a b => a = b) (fun s => b.length - s.2.toNat) (by
    rintro ⟨l, at_⟩ _ ⟨rfl, hl, i, hi, hil⟩
    simp only at hl hi
    subst hi
    show (∃ t1 t2, flash_Apply_l1 F w (eff n b.length) l (i : Int) = some (.next t1) ∧ wirelessref39_Apply_l2 F n l (i : Int) = some (.next t2) ∧ _) ∨ ∃ o1 o2, flash_Apply_l1 F w (eff n b.length) l (i : Int) = some (.done o1) ∧ wirelessref39_Apply_l2 F n l (i : Int) = some (.done o2) ∧ _
    unfold flash_Apply_l1 wirelessref39_Apply_l2 flash_Apply_j4
    have hn := len_nat l
    by_cases hc : i < b.length ∧ (n < 0 ∨ (i : Int) < n)
    · have hlt : (i : Int) < eff n b.length := by
        unfold eff
        split <;> omega
      have hx : l[i]? = some l[i] := List.getElem?_eq_getElem (by omega)
      have hr : ((decide ((i : Int) < (len l))) && ((decide (n < 0)) || (decide ((i : Int) < n)))) = true := by simp; omega
      rw [if_pos (dt hlt), he, if_pos rfl, if_pos hr, idx_nat, hx, Option.bind_some, upd_nat (by omega), Option.bind_some, w64_nat i (by omega)]
      exact .inl ⟨_, _, rfl, rfl, ⟨rfl, by simp [hl], i + 1, rfl, by omega⟩, by simp only; omega⟩
    · have hlt : ¬ (i : Int) < eff n b.length := by
        unfold eff
        split <;> omega
      have hr : ¬ ((decide ((i : Int) < (len l))) && ((decide (n < 0)) || (decide ((i : Int) < n)))) = true := by simp; omega
      rw [if_neg (df hlt), if_neg hr]
      exact .inr ⟨_, _, rfl, rfl, rfl⟩) F (b, 0) (b, 0) ⟨rfl, rfl, 0, rfl, by omega⟩ (by simp; omega)
  subst h3
  exact ⟨o1, h1, h2⟩
theorem flash_l2 : flash_Apply_l2 = flash_Apply_l1 := rfl
theorem ref_l3 : wirelessref39_Apply_l3 = wirelessref39_Apply_l1 := rfl
theorem ref_l4 : wirelessref39_Apply_l4 = wirelessref39_Apply_l2 := rfl
theorem join_step (F : Nat) (parts : List (List Int)) (l : List Int) (i : Nat) (x : List Int) (hx : parts[i]? = some x) (hl : l.length + x.length ≤ 140737488355328) (hi : i < 1000) :
    octets_Join_l1 F parts l (i : Int) = some (.next (l ++ x, ((i + 1 : Nat) : Int))) := by
  have hlt : i < parts.length := by
    rcases Nat.lt_or_ge i parts.length with h | h
    · exact h
    · rw [List.getElem?_eq_none h] at hx
      cases hx
  unfold octets_Join_l1
  rw [if_pos (by simp [len]; omega), idx_nat, hx, Option.bind_some, app_cat hl, Option.bind_some, w64_nat i (by omega)]
theorem join_one (F : Nat) (a : List Int) (hF : 1 < F) (h : a.length ≤ 140737488355328) : octets_Join F [a] = some a := by
  unfold octets_Join
  obtain ⟨F', rfl⟩ : ∃ F', F = F' + 1 + 1 := ⟨F - 2, by omega⟩
  have h1 : octets_Join_l1 (F' + 1 + 1) [a] [] 0 = some (.next (a, 1)) := by simpa using join_step (F' + 1 + 1) [a] [] 0 a rfl (by simp; omega) (by simp)
  rw [iter_step h1, iter_stop (o := a) (by unfold octets_Join_l1; rw [if_neg (by simp [len])])]
  rfl
theorem copied_id (F : Nat) (f : T_api_Flash) (h1 : f.Banks.1.length ≤ 4096) (h2 : f.Banks.2.length ≤ 4096) (hF : 1 < F) : flash_copied F f = some f := by
  unfold flash_copied
  rw [join_one F _ hF (by omega), join_one F _ hF (by omega)]
  rfl
theorem copy_id (F : Nat) (f : T_api_Flash) (h1 : f.Banks.1.length ≤ 4096) (h2 : f.Banks.2.length ≤ 4096) : wirelessref39_Copy F f = some f := by
  unfold wirelessref39_Copy
  rw [app_cat (by simp; omega), app_cat (by simp; omega)]
  rfl
theorem eff_iff (n all : Int) : (if ((decide (n < 0)) || (decide (n > all))) = true then all else n) = eff n all := by
  unfold eff
  simp
theorem j1_eff (F : Nat) (w : T_api_Write) (n : Int) (f : T_api_Flash) (all : Int) : flash_Apply_j1 F w n f all = flash_Apply_j2 F w f (eff n all) := by
  unfold flash_Apply_j1
  rw [← eff_iff]
  split <;> rfl
theorem j5_eff (F : Nat) (w : T_api_Write) (n : Int) (f : T_api_Flash) (all : Int) : flash_Apply_j5 F w n f all = flash_Apply_j6 F w f (eff n all) := by
  unfold flash_Apply_j5
  rw [← eff_iff]
  split <;> rfl
theorem apply_same (F : Nat) (f : T_api_Flash) (w : T_api_Write) (n : Int) (h1 : f.Banks.1.length ≤ 4096) (h2 : f.Banks.2.length ≤ 4096) (hB : w.Bytes.length ≤ 4096) (ho : I64 w.Offset) (hF : 10000 < F) :
    ∃ o, flash_Apply F f w n = some o ∧ wirelessref39_Apply F f w n = some o := by
  unfold flash_Apply wirelessref39_Apply
  rw [copied_id F f h1 h2 (by omega), copy_id F f h1 h2, Option.bind_some, Option.bind_some]
  by_cases hb : w.Bank < 0 ∨ w.Bank > 1
  · have q1 : ((w.Bank != 0) && (w.Bank != 1)) = true := by simp; omega
    have q2 : ((decide (w.Bank < 0)) || (decide (w.Bank > 1))) = true := by simp; omega
    rw [if_pos q1, if_pos q2]
    exact ⟨f, rfl, rfl⟩
  · have q1 : ¬ ((w.Bank != 0) && (w.Bank != 1)) = true := by simp; omega
    have q2 : ¬ ((decide (w.Bank < 0)) || (decide (w.Bank > 1))) = true := by simp; omega
    rw [if_neg q1, if_neg q2]
    by_cases h0 : w.Bank = 0
    · have q3 : (w.Bank == 0) = true := by simp [h0]
      rw [if_pos q3, if_pos q3]
      cases he : w.Erase
      · rw [if_neg (by decide), if_neg (by decide), j1_eff]
        obtain ⟨o, e1, e2⟩ := write1 F w n f.Banks.1 he hB h1 ho hF
        unfold flash_Apply_j2 wirelessref39_Apply_j1
        rw [len_nat, e1, e2]
        exact ⟨_, rfl, rfl⟩
      · rw [if_pos rfl, if_pos rfl, j1_eff]
        obtain ⟨o, e1, e2⟩ := erase1 F w n f.Banks.1 he h1 hF
        unfold flash_Apply_j2
        rw [len_nat, e1, e2]
        exact ⟨_, rfl, rfl⟩
    · have q3 : ¬ (w.Bank == 0) = true := by simp [h0]
      have q4 : (w.Bank == 1) = true := by simp; omega
      rw [if_neg q3, if_neg q3, if_pos q4, if_pos q4]
      cases he : w.Erase
      · rw [if_neg (by decide), if_neg (by decide), j5_eff]
        obtain ⟨o, e1, e2⟩ := write1 F w n f.Banks.2 he hB h2 ho hF
        unfold flash_Apply_j6 wirelessref39_Apply_j6
        rw [flash_l2, ref_l3, len_nat, e1, e2]
        exact ⟨_, rfl, rfl⟩
      · rw [if_pos rfl, if_pos rfl, j5_eff]
        obtain ⟨o, e1, e2⟩ := erase1 F w n f.Banks.2 he h2 hF
        unfold flash_Apply_j6
        rw [flash_l2, ref_l4, len_nat, e1, e2]
        exact ⟨_, rfl, rfl⟩
theorem erased_same (F : Nat) (k : Nat) (hk : k ≤ 4096) (hF : 10000 < F) : ∃ o, flash_erased F (k : Int) = some o ∧ wirelessref39_erased F (k : Int) = some o := by
  unfold flash_erased wirelessref39_erased
  rw [mk_small (by omega) (by decide), Option.bind_some, Option.bind_some]
  obtain ⟨o1, o2, h1, h2, h3⟩ := iter_sim (b1 := fun s : List Int × Int => flash_erased_l1 F (List.replicate k 0) s.1 s.2) (b2 := fun s : List Int × Int => wirelessref39_erased_l1 F (k : Int) s.1 s.2)
    (fun s t => s = t ∧ s.1.length = k ∧ ∃ i : Nat, s.2 = (i : Int) ∧ i ≤ k) (fun a b => a = b) (fun s => k - s.2.toNat) (by
    rintro ⟨l, at_⟩ _ ⟨rfl, hl, i, hi, hil⟩
    simp only at hl hi
    subst hi
    show (∃ t1 t2, flash_erased_l1 F (List.replicate k 0) l (i : Int) = some (.next t1) ∧ wirelessref39_erased_l1 F (k : Int) l (i : Int) = some (.next t2) ∧ _) ∨ ∃ o1 o2, flash_erased_l1 F (List.replicate k 0) l (i : Int) = some (.done o1) ∧ wirelessref39_erased_l1 F (k : Int) l (i : Int) = some (.done o2) ∧ _
    unfold flash_erased_l1 wirelessref39_erased_l1
    rw [len_nat, List.length_replicate]
    by_cases hc : i < k
    · have hlt : (i : Int) < k := by omega
      have hx : l[i]? = some l[i] := List.getElem?_eq_getElem (by omega)
      rw [if_pos (dt hlt), idx_nat, hx, Option.bind_some, upd_nat (by omega), Option.bind_some, w64_nat i (by omega)]
      exact .inl ⟨_, _, rfl, rfl, ⟨rfl, by simp [hl], i + 1, rfl, by omega⟩, by simp only; omega⟩
    · have hlt : ¬ (i : Int) < k := by omega
      rw [if_neg (df hlt)]
      exact .inr ⟨_, _, rfl, rfl, rfl⟩) F (List.replicate k 0, 0) (List.replicate k 0, 0) ⟨rfl, by simp, 0, rfl, by omega⟩ (by simp; omega)
  subst h3
  rw [h1, h2]
  exact ⟨o1, rfl, rfl⟩
theorem blank_same (F : Nat) (size : Int) (h : ¬ (4096 < size ∧ size ≤ 65536)) (hF : 10000 < F) : ∃ o, flash_Blank F size = some o ∧ wirelessref39_Blank F size = some o := by
  unfold flash_Blank wirelessref39_Blank flash_fits
  rw [Option.bind_some]
  by_cases hs : size < 64 ∨ size > 65536
  · have q1 : (!((decide (size ≥ 64)) && (decide (size ≤ 65536)))) = true := by simp; omega
    have q2 : ((decide (size < 64)) || (decide (size > 65536))) = true := by simp; omega
    rw [if_pos q1, if_pos q2]
    exact ⟨_, rfl, rfl⟩
  · have q1 : ¬ (!((decide (size ≥ 64)) && (decide (size ≤ 65536)))) = true := by simp; omega
    have q2 : ¬ ((decide (size < 64)) || (decide (size > 65536))) = true := by simp; omega
    rw [if_neg q1, if_neg q2]
    obtain ⟨k, rfl⟩ := Int.eq_ofNat_of_zero_le (a := size) (by omega)
    obtain ⟨o, e1, e2⟩ := erased_same F k (by omega) hF
    rw [e1, e2]
    exact ⟨_, rfl, rfl⟩
theorem same_refl (F : Nat) (a : T_api_Flash) : wirelessref39_SameFlash F a a = some true := by
  unfold wirelessref39_SameFlash
  simp
theorem applies_law (F : Nat) (hL : wirelesslaw39_lives F = some true) (f : T_api_Flash) (w : T_api_Write) (n size : Int) (ho : I64 w.Offset) (hF : 10000 < F) : wirelesslaw39_FlashApplies F f w n size = some true := by
  unfold wirelesslaw39_FlashApplies
  rw [hL, Option.bind_some, if_neg (by decide)]
  rw [len_nat, len_nat, len_nat]
  by_cases h1 : f.Banks.1.length ≤ 4096
  · rw [if_neg (by simp; omega), Option.bind_some]
    by_cases hg : 4096 < f.Banks.2.length ∨ 4096 < w.Bytes.length ∨ (4096 < size ∧ size ≤ 65536)
    · rw [if_pos (by simp; omega)]
    · rw [if_neg (by simp; omega)]
      have h2 : f.Banks.2.length ≤ 4096 := by omega
      have h3 : w.Bytes.length ≤ 4096 := by omega
      obtain ⟨o, e1, e2⟩ := blank_same F size (by omega) hF
      obtain ⟨p, e3, e4⟩ := apply_same F f w n h1 h2 h3 ho hF
      have hc : wirelesslaw39_copied F w.Bytes = some w.Bytes := by
        unfold wirelesslaw39_copied
        rw [app_cat (by simp; omega)]
        rfl
      rw [e1, e2, hc]
      simp only [Option.bind_some]
      rw [if_pos (by simp), same_refl, Option.bind_some, if_pos rfl, copy_id F f h1 h2, Option.bind_some]
      have e3' : flash_Apply F f { w with Bytes := w.Bytes } n = some p := e3
      rw [e3', e4, Option.bind_some, Option.bind_some, same_refl]
      rfl
  · rw [if_pos (by simp; omega), Option.bind_some, if_pos (by simp)]
theorem applies_go (f : T_api_Flash) (w : T_api_Write) (n size : Int) (ho : I64 w.Offset) : wirelesslaw39_FlashApplies FF f w n size = some true := applies_law FF lives_ok f w n size ho (by decide)
end V
end Go.Proofs.YtojcklkcjnnkaaaDoor
