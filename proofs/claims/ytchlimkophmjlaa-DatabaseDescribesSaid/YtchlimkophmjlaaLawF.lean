/-
  The number of attributes of services: of the program, and of the reference.
-/
import Derived.Test.YtchlimkophmjlaaLawE
namespace Go.Proofs.Ytchlimkophmjlaa
namespace V
def chs (u : T_api_UUID) (props perms : Int) (v : List Int) : Int :=
  if resv u = true then 1 else if (((decide (props < 0) || decide (props > 255)) || decide (perms < 0)) || decide (perms > 15)) = true then 5 else if decide (len v > 512) = true then 4 else 0
theorem uchosen (F : Nat) {u : T_api_UUID} (hu : UOk u) (props perms : Int) (v : List Int) (hF : 10 < F) : database_chosen F u props perms v = some (chs u props perms v) := by
  unfold database_chosen chs
  rw [reserved_ok F hu hF, Option.bind_some]
  generalize (((decide (props < 0) || decide (props > 255)) || decide (perms < 0)) || decide (perms > 15)) = b
  generalize decide (len v > 512) = c
  cases resv u <;> cases b <;> cases c <;> rfl
theorem rpart (F : Nat) (u : T_api_UUID) (props perms : Int) (v : List Int) : wirelessref43_part F u props perms v = some (chs u props perms v) := by
  unfold wirelessref43_part chs
  rw [rkept F u, Option.bind_some]
  generalize (((decide (props < 0) || decide (props > 255)) || decide (perms < 0)) || decide (perms > 15)) = b
  generalize decide (len v > 512) = c
  cases resv u <;> cases b <;> cases c <;> rfl
/-- Whether a characteristic has a configuration. -/
def cfg (c : T_api_Char) : Bool := iand .i64 c.Props 48 != 0
theorem told_raw (F : Nat) (c : T_api_Char) : database_told F c = some (iand .i64 c.Props 48 != 0) := rfl
theorem told_ok (F : Nat) (c : T_api_Char) : database_told F c = some (cfg c) := rfl
theorem idx_mem {α : Type} {l : List α} {i : Int} {x : α} (h : idx l i = some x) : x ∈ l := by
  unfold idx at h
  by_cases hi : 0 ≤ i
  · rw [if_pos hi] at h; exact List.mem_of_getElem? h
  · rw [if_neg hi] at h; cases h
theorem iter_none {S O : Type} {body : S → Option (Out S O)} {s : S} (h : body s = none) : ∀ F, iter body F s = none
  | 0 => rfl
  | F + 1 => by simp [iter, h]
theorem w64_assoc (n m : Int) : w64 (n + w64 (2 + m)) = w64 (w64 (n + 2) + m) := by unfold w64; omega
theorem cnt3_eq (F : Nat) {c : T_api_Char} (hc : COk c) (n : Int) (hF : 10 < F) : (fun y => database_count_l3 F c n y) = (fun y => wirelessref43_checkServices_l3 F c n y) := by
  funext y
  unfold database_count_l3 wirelessref43_checkServices_l3
  by_cases hy : y < len c.More
  · rw [if_pos (dt hy), if_pos (dt hy)]
    cases hx : idx c.More y with
    | none => rfl
    | some d =>
      simp only [Option.bind_some]
      rw [uchosen F (hc.m d (idx_mem hx)).u _ _ _ hF, rpart]
      rfl
  · rw [if_neg (df hy), if_neg (df hy)]
theorem cntj_eq (F : Nat) {c : T_api_Char} (hc : COk c) (k n : Int) (hF : 10 < F) : database_count_j4 F k c n = wirelessref43_checkServices_j4 F k c n := by
  unfold database_count_j4 wirelessref43_checkServices_j4
  rw [cnt3_eq F hc n hF]
  rfl
theorem cnt2_tail (F : Nat) {c : T_api_Char} (hc : COk c) (k A B : Int) (b : Bool) (hF : 10 < F) (h : A = B) : (if b = true then database_count_j4 F k c (w64 (A + 1)) else database_count_j4 F k c A) = (if b = true then wirelessref43_checkServices_j4 F k c (w64 (B + 1)) else wirelessref43_checkServices_j4 F k c B) := by
  subst h
  cases b with
  | true => exact cntj_eq F hc k _ hF
  | false => exact cntj_eq F hc k _ hF
theorem cnt2_eq (F : Nat) (l : List T_api_Service) (i : Int) {s : T_api_Service} (hs : idx l i = some s) (ho : SOk s) (hF : 10 < F) : (fun t : Int × Int => database_count_l2 F s t.1 t.2) = (fun t : Int × Int => wirelessref43_checkServices_l2 F l i t.1 t.2) := by
  funext t
  obtain ⟨n, k⟩ := t
  show database_count_l2 F s n k = wirelessref43_checkServices_l2 F l i n k
  unfold database_count_l2 wirelessref43_checkServices_l2
  rw [hs, Option.bind_some]
  by_cases hk : k < len s.Chars
  · rw [if_pos (dt hk), if_pos (dt hk), Option.bind_some]
    cases hx : idx s.Chars k with
    | none => rw [Option.bind_none, Option.bind_none]
    | some c =>
      have hc := ho.c c (idx_mem hx)
      rw [Option.bind_some, Option.bind_some, uchosen F hc.u _ _ _ hF, rpart, Option.bind_some, Option.bind_some]
      by_cases he : (chs c.f_Type c.Props c.Perms c.Value != 0) = true
      · rw [if_pos he, if_pos he]
      · rw [if_neg he, if_neg he, told_raw, Option.bind_some]
        have ha := w64_assoc n (len c.More)
        generalize w64 (n + w64 (2 + len c.More)) = A at ha ⊢
        generalize w64 (w64 (n + 2) + len c.More) = B at ha ⊢
        exact cnt2_tail F hc k A B _ hF ha
  · rw [if_neg (df hk), if_neg (df hk)]
theorem cnt1_eq (F : Nat) {l : List T_api_Service} (ho : ∀ s ∈ l, SOk s) (hF : 10 < F) : (fun t : Int × Int => database_count_l1 F l t.1 t.2) = (fun t : Int × Int => wirelessref43_checkServices_l1 F l t.1 t.2) := by
  funext t
  obtain ⟨n, i⟩ := t
  show database_count_l1 F l n i = wirelessref43_checkServices_l1 F l n i
  unfold database_count_l1 wirelessref43_checkServices_l1
  by_cases hk : i < len l
  · rw [if_pos (dt hk), if_pos (dt hk)]
    cases hx : idx l i with
    | none =>
      rw [iter_none (body := fun s : Int × Int => wirelessref43_checkServices_l2 F l i s.1 s.2) (by
        show wirelessref43_checkServices_l2 F l i _ _ = none
        unfold wirelessref43_checkServices_l2
        rw [hx]
        rfl)]
      rfl
    | some s =>
      rw [Option.bind_some, cnt2_eq F l i hx (ho s (idx_mem hx)) hF]
      rfl
  · rw [if_neg (df hk), if_neg (df hk)]
theorem count_eq (F : Nat) {l : List T_api_Service} (ho : ∀ s ∈ l, SOk s) (hF : 10 < F) : database_count F l = wirelessref43_checkServices F l := by
  unfold database_count wirelessref43_checkServices
  rw [cnt1_eq F ho hF]
  rfl

/-! ### What the count is -/
def cat (c : T_api_Char) : Nat := 2 + c.More.length + (if cfg c = true then 1 else 0)
def sat (s : T_api_Service) : Nat := 1 + sm cat s.Chars
def ct (l : List T_api_Service) : Nat := sm sat l
def dok (d : T_api_Attribute) : Prop := chs d.f_Type 0 d.Perms d.Value = 0
structure Cok (c : T_api_Char) : Prop where
  k : chs c.f_Type c.Props c.Perms c.Value = 0
  m : ∀ d ∈ c.More, dok d
def Sok (s : T_api_Service) : Prop := ∀ c ∈ s.Chars, Cok c
theorem sm_take_le {α : Type} (f : α → Nat) (l : List α) (k : Nat) : sm f (l.take k) ≤ sm f l := by
  have : sm f l = sm f (l.take k) + sm f (l.drop k) := by
    unfold sm
    rw [← List.sum_append, ← List.map_append, List.take_append_drop]
  omega
theorem cnt3 (F : Nat) {c : T_api_Char} (hc : COk c) (x : Int) (hF : c.More.length + 10 < F) : ∃ o, iter (fun y => database_count_l3 F c x y) F 0 = some o ∧ ((o = .inl x ∧ ∀ d ∈ c.More, dok d) ∨ ∃ e, o = .inr (0, e) ∧ e ≠ 0) := by
  have hl := hc.ml
  refine iter_by (body := fun y => database_count_l3 F c x y) (fun y => ∃ i : Nat, y = (i : Int) ∧ i ≤ c.More.length ∧ ∀ d ∈ c.More.take i, dok d) _ (fun y => c.More.length - y.toNat) ?_ F 0 ⟨0, rfl, by omega, by simp⟩ (by show c.More.length - (0 : Int).toNat < F; omega)
  rintro y ⟨i, rfl, hi, hd⟩
  show (∃ s', database_count_l3 F c x (i : Int) = some (.next s') ∧ _) ∨ ∃ o, database_count_l3 F c x (i : Int) = some (.done o) ∧ _
  unfold database_count_l3
  by_cases hin : i < c.More.length
  · have hxa : c.More[i]? = some c.More[i] := List.getElem?_eq_getElem hin
    have hdo := hc.m _ (List.getElem_mem hin)
    generalize c.More[i] = d at hxa hdo
    rw [if_pos (dt (show (i : Int) < len c.More by rw [len_nat]; omega)), idx_nat, hxa]
    simp only [Option.bind_some]
    rw [uchosen F hdo.u _ _ _ (by omega), Option.bind_some]
    by_cases he : chs d.f_Type 0 d.Perms d.Value = 0
    · rw [if_neg (by rw [he]; decide), w64_nat i (by omega)]
      exact .inl ⟨_, rfl, ⟨i + 1, rfl, hin, mem_take_succ hxa hd he⟩, by simp only [Int.toNat_natCast]; omega⟩
    · rw [if_pos (bne_iff_ne.2 he)]
      exact .inr ⟨_, rfl, .inr ⟨_, rfl, he⟩⟩
  · rw [if_neg (df (show ¬ (i : Int) < len c.More by rw [len_nat]; omega))]
    rw [List.take_of_length_le (by omega)] at hd
    exact .inr ⟨_, rfl, .inl ⟨rfl, hd⟩⟩
theorem ar1 (n m k : Nat) (h : n + m < 9000000000000000) (hk : k ≤ 1) : w64 ((n : Int) + w64 (2 + (m : Int))) = ((n + (2 + m) : Nat) : Int) := by
  rw [w64_id (x := 2 + (m : Int)) (by omega) (by omega), w64_id (by omega) (by omega)]
  omega
theorem cnt2 (F : Nat) {s : T_api_Service} (ho : SOk s) (n : Nat) (hn : n + sm cat s.Chars ≤ 1000000) (hF : 140737488355400 < F) : ∃ o, iter (fun t : Int × Int => database_count_l2 F s t.1 t.2) F ((n : Int), 0) = some o ∧ ((o = .inl ((n + sm cat s.Chars : Nat) : Int) ∧ Sok s) ∨ ∃ e, o = .inr (0, e) ∧ e ≠ 0) := by
  have hl := ho.cl
  refine iter_by (body := fun t : Int × Int => database_count_l2 F s t.1 t.2) (fun t => ∃ k : Nat, t.2 = (k : Int) ∧ k ≤ s.Chars.length ∧ t.1 = ((n + sm cat (s.Chars.take k) : Nat) : Int) ∧ ∀ c ∈ s.Chars.take k, Cok c) _ (fun t => s.Chars.length - t.2.toNat) ?_ F ((n : Int), 0) ⟨0, rfl, by omega, rfl, by simp⟩ (by simp only; omega)
  rintro ⟨m, y⟩ ⟨k, hy, hk, hm, hd⟩
  simp only at hy hm
  subst hy
  subst hm
  show (∃ s', database_count_l2 F s ((n + sm cat (s.Chars.take k) : Nat) : Int) (k : Int) = some (.next s') ∧ _) ∨ ∃ o, database_count_l2 F s ((n + sm cat (s.Chars.take k) : Nat) : Int) (k : Int) = some (.done o) ∧ _
  unfold database_count_l2
  by_cases hin : k < s.Chars.length
  · have hxa : s.Chars[k]? = some s.Chars[k] := List.getElem?_eq_getElem hin
    have hco := ho.c _ (List.getElem_mem hin)
    generalize s.Chars[k] = c at hxa hco
    rw [if_pos (dt (show (k : Int) < len s.Chars by rw [len_nat]; omega)), idx_nat, hxa]
    simp only [Option.bind_some]
    rw [uchosen F hco.u _ _ _ (by omega), Option.bind_some]
    by_cases he : chs c.f_Type c.Props c.Perms c.Value = 0
    · rw [if_neg (by rw [he]; decide), told_ok, Option.bind_some]
      have hs1 := sm_take cat s.Chars k hxa
      have hs2 := sm_take_le cat s.Chars (k + 1)
      have hml := hco.ml
      have e1 : w64 (((n + sm cat (s.Chars.take k) : Nat) : Int) + w64 (2 + len c.More)) = ((n + sm cat (s.Chars.take k) + (2 + c.More.length) : Nat) : Int) := ar1 _ _ 0 (by omega) (by omega)
      rw [e1]
      clear e1
      have fin : ∀ (m : Nat), m = n + sm cat (s.Chars.take (k + 1)) → (∃ s', database_count_j4 F (k : Int) c (m : Int) = some (.next s') ∧ (∃ k : Nat, s'.2 = (k : Int) ∧ k ≤ s.Chars.length ∧ s'.1 = ((n + sm cat (s.Chars.take k) : Nat) : Int) ∧ ∀ c ∈ s.Chars.take k, Cok c) ∧ s.Chars.length - s'.2.toNat < s.Chars.length - (k : Int).toNat) ∨ ∃ o, database_count_j4 F (k : Int) c (m : Int) = some (.done o) ∧ ((o = .inl ((n + sm cat s.Chars : Nat) : Int) ∧ Sok s) ∨ ∃ e, o = .inr (0, e) ∧ e ≠ 0) := by
        intro m hm
        unfold database_count_j4
        obtain ⟨o, h1, h2⟩ := cnt3 F hco (m : Int) (by omega)
        rw [h1, Option.bind_some]
        rcases h2 with ⟨rfl, hmd⟩ | ⟨e, rfl, hne⟩
        · simp only
          unfold database_count_j3
          rw [w64_nat k (by omega)]
          refine .inl ⟨_, rfl, ⟨k + 1, rfl, hin, ?_, mem_take_succ hxa hd ⟨he, hmd⟩⟩, by simp only [Int.toNat_natCast]; omega⟩
          simp only
          rw [hm]
        · exact .inr ⟨_, rfl, .inr ⟨e, rfl, hne⟩⟩
      have hcat : cat c = 2 + c.More.length + (if cfg c = true then 1 else 0) := rfl
      by_cases hg : cfg c = true
      · rw [if_pos hg] at hcat
        rw [if_pos hg, w64_nat (n + sm cat (s.Chars.take k) + (2 + c.More.length)) (by omega)]
        exact fin _ (by omega)
      · rw [if_neg hg]
        rw [if_neg hg] at hcat
        exact fin _ (by omega)
    · rw [if_pos (bne_iff_ne.2 he)]
      exact .inr ⟨_, rfl, .inr ⟨_, rfl, he⟩⟩
  · rw [if_neg (df (show ¬ (k : Int) < len s.Chars by rw [len_nat]; omega))]
    rw [List.take_of_length_le (by omega)] at hd ⊢
    exact .inr ⟨_, rfl, .inl ⟨rfl, hd⟩⟩
theorem count_ok (F : Nat) {l : List T_api_Service} (ho : LOk l) (hn : ct l ≤ 900000) (hF : 140737488355400 < F) : ∃ r, database_count F l = some r ∧ (r.2 = 0 → r.1 = (ct l : Int) ∧ ∀ s ∈ l, Sok s) := by
  have hl := ho.2
  unfold database_count
  obtain ⟨o, h1, h2⟩ := iter_by (body := fun t : Int × Int => database_count_l1 F l t.1 t.2) (fun t => ∃ k : Nat, t.2 = (k : Int) ∧ k ≤ l.length ∧ t.1 = (sm sat (l.take k) : Int) ∧ ∀ s ∈ l.take k, Sok s) (fun o => (o = .inl (ct l : Int) ∧ ∀ s ∈ l, Sok s) ∨ ∃ e, o = .inr (0, e) ∧ e ≠ 0) (fun t => l.length - t.2.toNat) (by
    rintro ⟨m, y⟩ ⟨k, hy, hk, hm, hd⟩
    simp only at hy hm
    subst hy
    subst hm
    show (∃ s', database_count_l1 F l ((sm sat (l.take k) : Nat) : Int) (k : Int) = some (.next s') ∧ _) ∨ ∃ o, database_count_l1 F l ((sm sat (l.take k) : Nat) : Int) (k : Int) = some (.done o) ∧ _
    unfold database_count_l1
    by_cases hin : k < l.length
    · have hxa : l[k]? = some l[k] := List.getElem?_eq_getElem hin
      have hso := ho.1 _ (List.getElem_mem hin)
      generalize l[k] = s at hxa hso
      have hs1 := sm_take sat l k hxa
      have hs2 := sm_take_le sat l (k + 1)
      unfold ct at hn
      have hsat : sat s = 1 + sm cat s.Chars := rfl
      rw [if_pos (dt (show (k : Int) < len l by rw [len_nat]; omega)), idx_nat, hxa, Option.bind_some, w64_nat _ (by omega)]
      obtain ⟨o, h1, h2⟩ := cnt2 F hso (sm sat (l.take k) + 1) (by omega) hF
      rw [h1, Option.bind_some]
      rcases h2 with ⟨rfl, hss⟩ | ⟨e, rfl, hne⟩
      · simp only
        unfold database_count_j2
        rw [w64_nat k (by omega)]
        refine .inl ⟨_, rfl, ⟨k + 1, rfl, hin, ?_, mem_take_succ hxa hd hss⟩, by simp only [Int.toNat_natCast]; omega⟩
        simp only
        rw [hs1, hsat]
        congr 1
        omega
      · exact .inr ⟨_, rfl, .inr ⟨e, rfl, hne⟩⟩
    · rw [if_neg (df (show ¬ (k : Int) < len l by rw [len_nat]; omega))]
      rw [List.take_of_length_le (by omega)] at hd ⊢
      exact .inr ⟨_, rfl, .inl ⟨rfl, hd⟩⟩) F (0, 0) ⟨0, rfl, by omega, rfl, by simp⟩ (by simp only; omega)
  rw [h1, Option.bind_some]
  rcases h2 with ⟨rfl, hs⟩ | ⟨e, rfl, hne⟩
  · exact ⟨_, rfl, fun _ => ⟨rfl, hs⟩⟩
  · exact ⟨_, rfl, fun h => absurd h hne⟩
theorem cat_le (c : T_api_Char) : cat c ≤ 3 + c.More.length := by
  unfold cat
  by_cases h : cfg c = true
  · rw [if_pos h]; omega
  · rw [if_neg h]; omega
theorem sat_le (s : T_api_Service) : sat s ≤ 1 + 3 * chn s := by
  unfold sat chn mrs
  have h1 := sm_le cat (fun c => 3 + c.More.length) s.Chars fun c _ => cat_le c
  have h2 : sm (fun c : T_api_Char => 3 + c.More.length) s.Chars = 3 * s.Chars.length + sm (fun c => c.More.length) s.Chars := by
    rw [← sm_const]
    exact sm_add (fun _ => 3) (fun c => c.More.length) s.Chars
  omega
theorem ct_le (l : List T_api_Service) (h : l.length + sm chn l ≤ 1100) : ct l ≤ 3300 := by
  unfold ct
  have h1 := sm_le sat (fun s => 1 + 3 * chn s) l fun s _ => sat_le s
  have h2 : sm (fun s => 1 + 3 * chn s) l = 1 * l.length + 3 * sm chn l := by
    rw [← sm_const, ← sm_mul]
    exact sm_add (fun _ => 1) (fun s => 3 * chn s) l
  omega
end V
end Go.Proofs.Ytchlimkophmjlaa
