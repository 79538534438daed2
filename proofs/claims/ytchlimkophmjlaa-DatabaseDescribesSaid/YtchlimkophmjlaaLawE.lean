/-
  Bytes of a type, and what services with few parts are.
-/
import Derived.Test.YtchlimkophmjlaaLawB
import Derived.Test.YtchlimkophmjlaaLawP
namespace Go.Proofs.Ytchlimkophmjlaa
namespace V
def encU (u : T_api_UUID) : List Int := if (numb u).2 = true then leb 2 (numb u).1 else leb 8 u.Low ++ leb 8 u.High
theorem numb_rng {u : T_api_UUID} (hu : UOk u) : 0 ≤ (numb u).1 ∧ (numb u).1 < 65536 := by
  obtain ⟨h0, h1, _, _⟩ := hu
  unfold numb
  by_cases h : u.Low = 9223372588214596859 ∧ u.High % 4294967296 = 4096 ∧ u.High / 4294967296 < 65536
  · rw [if_pos h]
    simp only
    omega
  · rw [if_neg h]
    simp
theorem leb8 (n : Int) : leb 8 n = [n % 256, n / 256 % 256, n / 65536 % 256, n / 16777216 % 256, n / 4294967296 % 256, n / 1099511627776 % 256, n / 281474976710656 % 256, n / 72057594037927936 % 256] := by
  simp only [leb]
  rw [Int.ediv_ediv_of_nonneg (x := n) (by decide : (0 : Int) ≤ 256), show (256 : Int) * 256 = 65536 from rfl, Int.ediv_ediv_of_nonneg (x := n) (by decide : (0 : Int) ≤ 65536), show (65536 : Int) * 256 = 16777216 from rfl, Int.ediv_ediv_of_nonneg (x := n) (by decide : (0 : Int) ≤ 16777216), show (16777216 : Int) * 256 = 4294967296 from rfl, Int.ediv_ediv_of_nonneg (x := n) (by decide : (0 : Int) ≤ 4294967296), show (4294967296 : Int) * 256 = 1099511627776 from rfl, Int.ediv_ediv_of_nonneg (x := n) (by decide : (0 : Int) ≤ 1099511627776), show (1099511627776 : Int) * 256 = 281474976710656 from rfl, Int.ediv_ediv_of_nonneg (x := n) (by decide : (0 : Int) ≤ 281474976710656), show (281474976710656 : Int) * 256 = 72057594037927936 from rfl]
theorem uencode (F : Nat) {u : T_api_UUID} (hu : UOk u) (hF : 2 < F) : uuid_Encode F u = some (encU u) := by
  unfold uuid_Encode encU
  rw [unumber F hu, Option.bind_some]
  by_cases h : (numb u).2 = true
  · rw [if_pos h, if_pos h, shrp_eq]
    simp only [leb, wu8]
    rfl
  · rw [if_neg h, if_neg h, ubytes, Option.bind_some, leb8, leb8]
    simp only [List.cons_append, List.nil_append]
    rw [join_one F _ (by omega) (by simp), Option.bind_some]
theorem rencode (F : Nat) {u : T_api_UUID} (hu : UOk u) (hF : 20 < F) : wirelessref41_Encode F u = some (encU u) := by
  unfold wirelessref41_Encode encU
  rw [rnumber F hu, Option.bind_some]
  have hr := numb_rng hu
  obtain ⟨h0, h1, l0, l1⟩ := hu
  by_cases h : (numb u).2 = true
  · rw [if_pos h, if_pos h, wu64_id hr.1 (by omega)]
    have := rput_ok F (numb u).1 2 (by omega) (by omega) hr.1 (by omega)
    rw [show ((2 : Nat) : Int) = 2 from rfl] at this
    rw [this, Option.bind_some]
  · rw [if_neg h, if_neg h]
    have p1 := rput_ok F u.Low 8 (by omega) (by omega) l0 l1
    have p2 := rput_ok F u.High 8 (by omega) (by omega) h0 h1
    rw [show ((8 : Nat) : Int) = 8 from rfl] at p1 p2
    rw [p1, p2, Option.bind_some, Option.bind_some, app_cat (by rw [leb_length, leb_length]; decide), Option.bind_some]
    rfl
theorem encU_len (u : T_api_UUID) : (encU u).length ≤ 16 := by
  unfold encU
  by_cases h : (numb u).2 = true
  · rw [if_pos h, leb_length]; decide
  · rw [if_neg h, List.length_append, leb_length, leb_length]; decide
theorem encU_byte (u : T_api_UUID) : ∀ x ∈ encU u, Byte x := by
  unfold encU
  by_cases h : (numb u).2 = true
  · rw [if_pos h]; exact leb_byte _ _
  · rw [if_neg h]
    intro x hx
    rcases List.mem_append.1 hx with hx | hx
    · exact leb_byte _ _ x hx
    · exact leb_byte _ _ x hx

/-! ### Services -/
structure COk (c : T_api_Char) : Prop where
  u : UOk c.f_Type
  b : ∀ x ∈ c.Value, Byte x
  l : c.Value.length ≤ 140737488355328
  m : ∀ d ∈ c.More, AOk d
  ml : c.More.length ≤ 140737488355328
structure SOk (s : T_api_Service) : Prop where
  u : UOk s.f_Type
  c : ∀ c ∈ s.Chars, COk c
  cl : s.Chars.length ≤ 140737488355328
def LOk (l : List T_api_Service) : Prop := (∀ s ∈ l, SOk s) ∧ l.length ≤ 140737488355328
def sm {α : Type} (f : α → Nat) (l : List α) : Nat := (l.map f).sum
theorem sm_cons {α : Type} (f : α → Nat) (a : α) (l : List α) : sm f (a :: l) = f a + sm f l := by simp [sm]
theorem sm_nil {α : Type} (f : α → Nat) : sm f [] = 0 := rfl
theorem sm_take {α : Type} (f : α → Nat) (l : List α) (i : Nat) {x : α} (hx : l[i]? = some x) : sm f (l.take (i + 1)) = sm f (l.take i) + f x := by
  unfold sm
  rw [List.take_add_one, hx]
  simp
theorem mem_take_succ {α : Type} {l : List α} {i : Nat} {x : α} (hx : l[i]? = some x) {P : α → Prop} (h : ∀ d ∈ l.take i, P d) (hp : P x) : ∀ d ∈ l.take (i + 1), P d := by
  intro d hd
  rw [List.take_add_one, hx] at hd
  rcases List.mem_append.1 hd with hd | hd
  · exact h d hd
  · simp at hd; subst hd; exact hp
/-- The parts of a characteristic, of a service. -/
def cg (c : T_api_Char) : Nat := 1 + c.More.length
def sg (s : T_api_Service) : Nat := 1 + sm cg s.Chars
structure VC (c : T_api_Char) : Prop where
  v : c.Value.length ≤ 8192
  m : ∀ d ∈ c.More, d.Value.length ≤ 8192
def VS (s : T_api_Service) : Prop := ∀ c ∈ s.Chars, VC c
def mrs (l : List T_api_Char) : Nat := sm (fun c => c.More.length) l
theorem small3 (F : Nat) (n : Int) (c : T_api_Char) (b : Int) (hl : c.More.length ≤ 140737488355328) (hF : c.More.length < F) : ∃ o, iter (fun s : Int × Int => wirelesslaw43_small_l3 F n c s.1 s.2) F (b, 0) = some o ∧ (o = .inr false ∨ ∃ b', o = .inl (w64 (n + len c.More), b') ∧ ∀ d ∈ c.More, d.Value.length ≤ 8192) := by
  refine iter_by (body := fun s : Int × Int => wirelesslaw43_small_l3 F n c s.1 s.2) (fun s => ∃ i : Nat, s.2 = (i : Int) ∧ i ≤ c.More.length ∧ ∀ d ∈ c.More.take i, d.Value.length ≤ 8192) _ (fun s => c.More.length - s.2.toNat) ?_ F (b, 0) ⟨0, rfl, by omega, by simp⟩ (by simp only; omega)
  rintro ⟨b, x⟩ ⟨i, hx, hi, hd⟩
  simp only at hx
  subst hx
  show (∃ s', wirelesslaw43_small_l3 F n c b (i : Int) = some (.next s') ∧ _) ∨ ∃ o, wirelesslaw43_small_l3 F n c b (i : Int) = some (.done o) ∧ _
  unfold wirelesslaw43_small_l3
  by_cases hin : i < c.More.length
  · have hxa : c.More[i]? = some c.More[i] := List.getElem?_eq_getElem hin
    generalize c.More[i] = d at hxa
    rw [if_pos (dt (show (i : Int) < len c.More by rw [len_nat]; omega)), idx_nat, hxa]
    simp only [Option.bind_some]
    by_cases hv : len d.Value > 8192
    · rw [if_pos (dt hv)]
      exact .inr ⟨_, rfl, .inl rfl⟩
    · rw [if_neg (df hv), w64_nat i (by omega)]
      refine .inl ⟨_, rfl, ⟨i + 1, rfl, hin, mem_take_succ hxa hd (by rw [len_nat] at hv; omega)⟩, ?_⟩
      simp only
      omega
  · rw [if_neg (df (show ¬ (i : Int) < len c.More by rw [len_nat]; omega))]
    refine .inr ⟨_, rfl, .inr ⟨_, rfl, ?_⟩⟩
    rw [List.take_of_length_le (by omega)] at hd
    exact hd
theorem small2 (F : Nat) (l : List T_api_Service) (i : Nat) (s : T_api_Service) (hs : l[i]? = some s) (ho : SOk s) (n : Nat) (hn : n ≤ 900000000000000) (b : Int) (hF : 140737488355340 < F) : ∃ o, iter (fun t : Int × Int × Int => wirelesslaw43_small_l2 F l i t.1 t.2.1 t.2.2) F ((n : Int), b, 0) = some o ∧ (o = .inr false ∨ ∃ (m : Nat) (b' : Int), o = .inl ((m : Int), b') ∧ m ≤ 900000000000000 ∧ (1100 < m ∨ (m = n + mrs s.Chars ∧ VS s))) := by
  refine iter_by (body := fun t : Int × Int × Int => wirelesslaw43_small_l2 F l i t.1 t.2.1 t.2.2) (fun t => ∃ k m : Nat, t.2.2 = (k : Int) ∧ t.1 = (m : Int) ∧ k ≤ s.Chars.length ∧ m ≤ 900000000000000 ∧ (1100 < m ∨ (m = n + mrs (s.Chars.take k) ∧ ∀ c ∈ s.Chars.take k, VC c))) _ (fun t => s.Chars.length - t.2.2.toNat) ?_ F ((n : Int), b, 0) ⟨0, n, rfl, rfl, by omega, hn, .inr ⟨rfl, by simp⟩⟩ (by have := ho.cl; simp only; omega)
  rintro ⟨n', b, x⟩ ⟨k, m, hx, hm, hk, hm2, hinv⟩
  simp only at hx hm
  subst hx
  subst hm
  show (∃ s', wirelesslaw43_small_l2 F l i (m : Int) b (k : Int) = some (.next s') ∧ _) ∨ ∃ o, wirelesslaw43_small_l2 F l i (m : Int) b (k : Int) = some (.done o) ∧ _
  have hcl := ho.cl
  unfold wirelesslaw43_small_l2
  rw [idx_nat, hs, Option.bind_some]
  by_cases hin : k < s.Chars.length ∧ m ≤ 1100
  · obtain ⟨hin, hm11⟩ := hin
    have hxa : s.Chars[k]? = some s.Chars[k] := List.getElem?_eq_getElem hin
    have hco := ho.c _ (List.getElem_mem hin)
    generalize s.Chars[k] = c at hxa hco
    rw [if_pos (by rw [dt (show (k : Int) < len s.Chars by rw [len_nat]; omega), dt (show (m : Int) ≤ 1100 by omega)]; rfl), Option.bind_some, idx_nat, hxa, Option.bind_some]
    have hml := hco.ml
    have e : w64 ((m : Int) + len c.More) = ((m + c.More.length : Nat) : Int) := by rw [len_nat, w64_id (by omega) (by omega)]; omega
    by_cases hv : c.Value.length ≤ 8192 ∧ m + c.More.length ≤ 1100
    · rw [if_neg (by
        rw [e, decide_eq_false (show ¬ len c.Value > 8192 by rw [len_nat]; omega), decide_eq_false (show ¬ (((m + c.More.length : Nat) : Int) > 1100) by omega)]
        decide)]
      obtain ⟨o, h1, h2⟩ := small3 F (m : Int) c (w64 (b + len c.Value)) hml (by omega)
      rw [h1, Option.bind_some]
      rcases h2 with rfl | ⟨b', rfl, hmv⟩
      · exact .inr ⟨_, rfl, .inl rfl⟩
      · simp only
        unfold wirelesslaw43_small_j3
        rw [e, w64_nat k (by omega)]
        refine .inl ⟨_, rfl, ⟨k + 1, m + c.More.length, rfl, rfl, hin, by omega, ?_⟩, by simp only; omega⟩
        rcases hinv with hinv | ⟨hinv, hvc⟩
        · exact .inl (by omega)
        · refine .inr ⟨?_, mem_take_succ hxa hvc ⟨hv.1, hmv⟩⟩
          unfold mrs at hinv ⊢
          rw [sm_take _ _ _ hxa]
          omega
    · rw [if_pos (by
        rw [e]
        by_cases h8 : c.Value.length ≤ 8192
        · rw [decide_eq_true (show (((m + c.More.length : Nat) : Int) > 1100) by omega), Bool.or_true]
        · rw [decide_eq_true (show len c.Value > 8192 by rw [len_nat]; omega), Bool.true_or])]
      exact .inr ⟨_, rfl, .inl rfl⟩
  · rw [if_neg (by
      by_cases hk2 : k < s.Chars.length
      · rw [decide_eq_false (show ¬ (m : Int) ≤ 1100 by omega), Bool.and_false]; decide
      · rw [decide_eq_false (show ¬ (k : Int) < len s.Chars by rw [len_nat]; omega), Bool.false_and]; decide)]
    refine .inr ⟨_, rfl, .inr ⟨m, b, rfl, hm2, ?_⟩⟩
    rcases hinv with hinv | ⟨hinv, hvc⟩
    · exact .inl hinv
    · by_cases h11 : 1100 < m
      · exact .inl h11
      · have : s.Chars.length ≤ k := by omega
        rw [List.take_of_length_le this] at hinv hvc
        exact .inr ⟨hinv, hvc⟩
def chn (s : T_api_Service) : Nat := s.Chars.length + mrs s.Chars
theorem small1 (F : Nat) (l : List T_api_Service) (ho : LOk l) (hF : 140737488355340 < F) : ∃ o, iter (fun t : Int × Int × Int => wirelesslaw43_small_l1 F l t.1 t.2.1 t.2.2) F (len l, 0, 0) = some o ∧ (o = .inr false ∨ ∃ (m : Nat) (b' : Int), o = .inl ((m : Int), b') ∧ (1100 < m ∨ (m = l.length + sm chn l ∧ ∀ s ∈ l, VS s))) := by
  have hll := ho.2
  refine iter_by (body := fun t : Int × Int × Int => wirelesslaw43_small_l1 F l t.1 t.2.1 t.2.2) (fun t => ∃ k m : Nat, t.2.2 = (k : Int) ∧ t.1 = (m : Int) ∧ k ≤ l.length ∧ (1100 < m ∨ (m = l.length + sm chn (l.take k) ∧ ∀ c ∈ l.take k, VS c))) _ (fun t => l.length - t.2.2.toNat) ?_ F (len l, 0, 0) ⟨0, l.length, rfl, rfl, by omega, .inr ⟨rfl, by simp⟩⟩ (by simp only; omega)
  rintro ⟨n', b, x⟩ ⟨k, m, hx, hm, hk, hinv⟩
  simp only at hx hm
  subst hx
  subst hm
  show (∃ s', wirelesslaw43_small_l1 F l (m : Int) b (k : Int) = some (.next s') ∧ _) ∨ ∃ o, wirelesslaw43_small_l1 F l (m : Int) b (k : Int) = some (.done o) ∧ _
  unfold wirelesslaw43_small_l1
  by_cases hin : k < l.length ∧ k < 1100 ∧ m ≤ 1100
  · obtain ⟨hin, hk11, hm11⟩ := hin
    have hxa : l[k]? = some l[k] := List.getElem?_eq_getElem hin
    have hso := ho.1 _ (List.getElem_mem hin)
    generalize l[k] = s at hxa hso
    have hcl := hso.cl
    rw [if_pos (by rw [dt (show (k : Int) < len l by rw [len_nat]; omega), dt (show (k : Int) < 1100 by omega), dt (show (m : Int) ≤ 1100 by omega)]; rfl), idx_nat, hxa, Option.bind_some]
    have e : w64 ((m : Int) + len s.Chars) = ((m + s.Chars.length : Nat) : Int) := by rw [len_nat, w64_id (by omega) (by omega)]; omega
    rw [e]
    obtain ⟨o, h1, h2⟩ := small2 F l k s hxa hso (m + s.Chars.length) (by omega) b hF
    rw [h1, Option.bind_some]
    rcases h2 with rfl | ⟨m', b', rfl, hm9, hmv⟩
    · exact .inr ⟨_, rfl, .inl rfl⟩
    · simp only
      unfold wirelesslaw43_small_j2
      rw [w64_nat k (by omega)]
      refine .inl ⟨_, rfl, ⟨k + 1, m', rfl, rfl, hin, ?_⟩, by simp only; omega⟩
      rcases hmv with hmv | ⟨hmv, hvs⟩
      · exact .inl hmv
      · rcases hinv with hinv | ⟨hinv, hvc⟩
        · omega
        · refine .inr ⟨?_, mem_take_succ hxa hvc hvs⟩
          rw [sm_take _ _ _ hxa]
          unfold chn at hinv ⊢
          omega
  · rw [if_neg (by
      by_cases hk2 : k < l.length
      · by_cases hk3 : k < 1100
        · rw [decide_eq_false (show ¬ (m : Int) ≤ 1100 by omega), Bool.and_false]; decide
        · rw [decide_eq_false (show ¬ (k : Int) < 1100 by omega), Bool.and_false, Bool.false_and]; decide
      · rw [decide_eq_false (show ¬ (k : Int) < len l by rw [len_nat]; omega), Bool.false_and, Bool.false_and]; decide)]
    refine .inr ⟨_, rfl, .inr ⟨m, b, rfl, ?_⟩⟩
    rcases hinv with hinv | ⟨hinv, hvc⟩
    · exact .inl hinv
    · by_cases h11 : 1100 < m
      · exact .inl h11
      · have : l.length ≤ k := by omega
        rw [List.take_of_length_le this] at hinv hvc
        exact .inr ⟨hinv, hvc⟩
theorem sm_le {α : Type} (f g : α → Nat) : ∀ (l : List α), (∀ a ∈ l, f a ≤ g a) → sm f l ≤ sm g l
  | [], _ => Nat.le_refl _
  | a :: l, h => by
    rw [sm_cons, sm_cons]
    exact Nat.add_le_add (h a (by simp)) (sm_le f g l fun b hb => h b (by simp [hb]))
theorem sm_add {α : Type} (f g : α → Nat) : ∀ (l : List α), sm (fun a => f a + g a) l = sm f l + sm g l
  | [] => rfl
  | a :: l => by rw [sm_cons, sm_cons, sm_cons, sm_add f g l]; omega
theorem sm_const {α : Type} (k : Nat) : ∀ (l : List α), sm (fun _ => k) l = k * l.length
  | [] => rfl
  | a :: l => by rw [sm_cons, sm_const k l, List.length_cons, Nat.mul_succ]; omega
theorem sm_mul {α : Type} (f : α → Nat) (k : Nat) : ∀ (l : List α), sm (fun a => k * f a) l = k * sm f l
  | [] => rfl
  | a :: l => by rw [sm_cons, sm_cons, sm_mul f k l, Nat.mul_add]
theorem small_ok (F : Nat) (l : List T_api_Service) (ho : LOk l) (hF : 140737488355340 < F) : ∃ b, wirelesslaw43_small F l = some b ∧ (b = true → l.length + sm chn l ≤ 1100 ∧ ∀ s ∈ l, VS s) := by
  unfold wirelesslaw43_small
  obtain ⟨o, h1, h2⟩ := small1 F l ho hF
  rw [h1, Option.bind_some]
  rcases h2 with rfl | ⟨m, b, rfl, h2⟩
  · exact ⟨false, rfl, fun h => by cases h⟩
  · refine ⟨_, rfl, fun h => ?_⟩
    simp only [Bool.and_eq_true, decide_eq_true_eq] at h
    rcases h2 with h2 | ⟨h2, h3⟩
    · omega
    · exact ⟨by omega, h3⟩
end V
end Go.Proofs.Ytchlimkophmjlaa
