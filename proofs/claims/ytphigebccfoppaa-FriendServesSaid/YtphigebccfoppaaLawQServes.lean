/-
  FriendServes: every result of every call for a friend's side is the document's.
-/
import Derived.Test.YtphigebccfoppaaLawV
namespace Go.Proofs.Ytphigebccfoppaa
namespace V
theorem less_ok (F : Nat) (x y : Int) : cmp_Less_uint16 F x y = some (decide (x < y)) := by
  unfold cmp_Less_uint16 cmp_isNaN_uint16
  simp
theorem mid_ok (i j : Nat) (h : i + j ≤ 10000) : w64 (shrp (wu64 (w64 ((i : Int) + (j : Int)))) 1) = (((i + j) / 2 : Nat) : Int) := by
  rw [w64_id (x := (i : Int) + (j : Int)) (by omega) (by omega), wu64_id (by omega) (by omega)]
  unfold shrp
  rw [Int.fdiv_eq_ediv_of_nonneg _ (by decide)]
  rw [w64_id (by omega) (by omega)]
  omega
theorem sorted_lt {l : List Int} (hs : l.Pairwise (· < ·)) {i j : Nat} {a b : Int} (hij : i < j) (ha : l[i]? = some a) (hb : l[j]? = some b) : a < b := by
  obtain ⟨hi, rfl⟩ := List.getElem?_eq_some_iff.1 ha
  obtain ⟨hj, rfl⟩ := List.getElem?_eq_some_iff.1 hb
  exact List.pairwise_iff_getElem.1 hs i j hi hj hij
theorem sorted_le {l : List Int} (hs : l.Pairwise (· < ·)) {i j : Nat} {a b : Int} (hij : i ≤ j) (ha : l[i]? = some a) (hb : l[j]? = some b) : a ≤ b := by
  rcases Nat.lt_or_eq_of_le hij with h | h
  · have := sorted_lt hs h ha hb
    omega
  · subst h
    rw [ha] at hb
    injection hb with hb
    omega
theorem bs_ok (F : Nat) {l : List Int} (hs : l.Pairwise (· < ·)) (hn : l.length ≤ 1000) (t : Int) (hF : 2000 < F) :
    ∃ p : Nat, p ≤ l.length ∧ slices_BinarySearch_uint16_uint16 F l t = some ((p : Int), l.any fun x => x == t) ∧ (∀ k x, k < p → l[k]? = some x → x < t) ∧ (∀ k x, p ≤ k → l[k]? = some x → t ≤ x) := by
  unfold slices_BinarySearch_uint16_uint16
  obtain ⟨o, h1, p, hp, hpl, hlo, hhi⟩ := iter_by (body := fun s : Int × Int => slices_BinarySearch_uint16_uint16_l1 F l t s.1 s.2)
    (fun s => ∃ i j : Nat, s = ((i : Int), (j : Int)) ∧ i ≤ j ∧ j ≤ l.length ∧ (∀ k x, k < i → l[k]? = some x → x < t) ∧ (∀ k x, j ≤ k → l[k]? = some x → t ≤ x))
    (fun o => ∃ p : Nat, o = (p : Int) ∧ p ≤ l.length ∧ (∀ k x, k < p → l[k]? = some x → x < t) ∧ (∀ k x, p ≤ k → l[k]? = some x → t ≤ x))
    (fun s => (s.2 - s.1).toNat) (by
    rintro ⟨a, b⟩ ⟨i, j, hab, hij, hj, hlo, hhi⟩
    injection hab with ha hb
    subst ha
    subst hb
    show (∃ s', slices_BinarySearch_uint16_uint16_l1 F l t (i : Int) (j : Int) = some (.next s') ∧ _) ∨ ∃ o, slices_BinarySearch_uint16_uint16_l1 F l t (i : Int) (j : Int) = some (.done o) ∧ _
    unfold slices_BinarySearch_uint16_uint16_l1
    by_cases hlt : i < j
    · rw [if_pos (dt (by omega)), mid_ok i j (by omega)]
      obtain ⟨m, hm⟩ : ∃ m, m = (i + j) / 2 := ⟨_, rfl⟩
      rw [← hm]
      have hmi : i ≤ m := by omega
      have hmj : m < j := by omega
      have hx : l[m]? = some l[m] := List.getElem?_eq_getElem (by omega)
      generalize l[m] = x at hx
      rw [idx_nat, hx, Option.bind_some, less_ok, Option.bind_some, w64_nat m (by omega)]
      by_cases hxt : x < t
      · rw [if_pos (dt hxt)]
        refine .inl ⟨_, rfl, ⟨m + 1, j, rfl, by omega, hj, ?_, hhi⟩, by simp only; omega⟩
        intro k y hk hy
        have := sorted_le hs (show k ≤ m by omega) hy hx
        omega
      · rw [if_neg (df hxt)]
        refine .inl ⟨_, rfl, ⟨i, m, rfl, hmi, by omega, hlo, ?_⟩, by simp only; omega⟩
        intro k y hk hy
        have := sorted_le hs hk hx hy
        omega
    · rw [if_neg (df (by omega))]
      have : i = j := by omega
      subst this
      exact .inr ⟨_, rfl, i, rfl, hj, hlo, hhi⟩) F (0, len l) ⟨0, l.length, rfl, Nat.zero_le _, Nat.le_refl _, fun k x hk => by omega, fun k x hk hx => by
        have := (List.getElem?_eq_some_iff.1 hx).1
        omega⟩ (by rw [len_nat]; simp only; omega)
  subst hp
  refine ⟨p, hpl, ?_, hlo, hhi⟩
  rw [h1, Option.bind_some]
  unfold slices_BinarySearch_uint16_uint16_j1 slices_isNaN_uint16
  by_cases hin : p < l.length
  · have hx : l[p]? = some l[p] := List.getElem?_eq_getElem hin
    have hmem := List.getElem_mem hin
    generalize l[p] = x at hx hmem
    have hge := hhi p x (Nat.le_refl _) hx
    rw [if_pos (dt (by rw [len_nat]; omega)), idx_nat, hx, Option.bind_some]
    by_cases hxt : x = t
    · rw [if_pos (by simpa using hxt), Option.bind_some]
      have : (l.any fun x => x == t) = true := List.any_eq_true.2 ⟨x, hmem, by simpa using hxt⟩
      rw [this]
    · rw [if_neg (by simpa using hxt), Option.bind_some, Option.bind_some, if_neg (by simp), Option.bind_some]
      have : (l.any fun x => x == t) = false := by
        rw [List.any_eq_false]
        intro y hy
        obtain ⟨k, hk, rfl⟩ := List.getElem_of_mem hy
        have hk2 : l[k]? = some l[k] := List.getElem?_eq_getElem hk
        generalize l[k] = y at hk2
        simp only [beq_iff_eq]
        intro hyt
        rcases Nat.lt_trichotomy k p with h | h | h
        · have := hlo k y h hk2
          omega
        · subst h
          rw [hx] at hk2
          injection hk2 with hk2
          omega
        · have := sorted_lt hs h hx hk2
          omega
      rw [this]
  · rw [if_neg (df (by rw [len_nat]; omega)), Option.bind_some]
    have : (l.any fun x => x == t) = false := by
      rw [List.any_eq_false]
      intro y hy
      obtain ⟨k, hk, rfl⟩ := List.getElem_of_mem hy
      have hk2 : l[k]? = some l[k] := List.getElem?_eq_getElem hk
      generalize l[k] = y at hk2
      have := hlo k y (by omega) hk2
      simp only [beq_iff_eq]
      omega
    rw [this]
theorem in_ok (F : Nat) (l : List Int) (a : Int) (hn : l.length ≤ 1000) (hF : 2000 < F) : wirelessref51_in F l a = some (l.any fun x => x == a) := by
  unfold wirelessref51_in
  have := iter_any (body := fun s : Int => wirelessref51_in_l1 F l a s) (l := l) (p := fun x => x == a) (o := .inr true) (e := .inl ()) (by
    intro i x hx
    have hi := (List.getElem?_eq_some_iff.1 hx).1
    show wirelessref51_in_l1 F l a (i : Int) = _
    unfold wirelessref51_in_l1
    rw [if_pos (dt (by rw [len_nat]; omega)), idx_nat, hx, Option.bind_some, w64_nat i (by omega)]
    split <;> rfl) (by
    show wirelessref51_in_l1 F l a (l.length : Int) = _
    unfold wirelessref51_in_l1
    rw [if_neg (df (by rw [len_nat]; omega))]) F 0 (by omega) (by omega)
  rw [show (0 : Int) = ((0 : Nat) : Int) from rfl, this, Option.bind_some, List.drop_zero]
  cases (l.any fun x => x == a) <;> rfl
theorem has_ok (F : Nat) (l : List Int) (a : Int) (hn : l.length ≤ 1000) (hF : 2000 < F) : slices_Contains_uint16_uint16 F l a = some (l.any fun x => x == a) := by
  unfold slices_Contains_uint16_uint16 slices_Index_uint16_uint16
  obtain ⟨o, h1, h2⟩ := iter_by (body := fun s : Int => slices_Index_uint16_uint16_l1 F l a s) (fun s => ∃ i : Nat, s = (i : Int) ∧ i ≤ l.length ∧ ∀ x ∈ l.take i, ¬ x = a) (fun o => (o = .inl () ∧ ∀ x ∈ l, ¬ x = a) ∨ ∃ i : Int, 0 ≤ i ∧ o = .inr i ∧ ∃ x ∈ l, x = a) (fun s => l.length - s.toNat) (by
    rintro s ⟨i, rfl, hi, hp⟩
    show (∃ s', slices_Index_uint16_uint16_l1 F l a (i : Int) = some (.next s') ∧ _) ∨ ∃ o, slices_Index_uint16_uint16_l1 F l a (i : Int) = some (.done o) ∧ _
    unfold slices_Index_uint16_uint16_l1
    by_cases hin : i < l.length
    · have hx : l[i]? = some l[i] := List.getElem?_eq_getElem hin
      have hm := List.getElem_mem hin
      generalize l[i] = x at hx hm
      rw [if_pos (dt (by rw [len_nat]; omega)), idx_nat, hx, Option.bind_some]
      by_cases hxa : a = x
      · rw [if_pos (by simpa using hxa)]
        exact .inr ⟨_, rfl, .inr ⟨i, by omega, rfl, x, hm, hxa.symm⟩⟩
      · rw [if_neg (by simpa using hxa), w64_nat i (by omega)]
        refine .inl ⟨_, rfl, ⟨i + 1, rfl, hin, ?_⟩, by simp only [Int.toNat_natCast]; omega⟩
        intro y hy
        rw [List.take_add_one, hx] at hy
        rcases List.mem_append.1 hy with hy | hy
        · exact hp y hy
        · simp at hy
          subst hy
          exact fun e => hxa e.symm
    · rw [if_neg (df (by rw [len_nat]; omega))]
      rw [List.take_of_length_le (by omega)] at hp
      exact .inr ⟨_, rfl, .inl ⟨rfl, hp⟩⟩) F 0 ⟨0, rfl, by omega, by simp⟩ (by omega)
  rw [h1, Option.bind_some]
  rcases h2 with ⟨rfl, hp⟩ | ⟨i, hi, rfl, x, hx, rfl⟩
  · have : (l.any fun x => x == a) = false := by
      rw [List.any_eq_false]
      intro x hx
      simpa using hp x hx
    rw [this]
    rfl
  · have : (l.any fun y => y == x) = true := List.any_eq_true.2 ⟨x, hx, by simp⟩
    rw [this]
    simp only [Option.bind_some]
    rw [dt hi]
theorem prefix_ok (F : Nat) {f : T_api_Friend} {g : Int} {p : Nat} (hn : f.Subs.length ≤ 1000) (hp : p ≤ f.Subs.length) (hlo : ∀ k x, k < p → f.Subs[k]? = some x → x < g) (hhi : ∀ k x, p ≤ k → f.Subs[k]? = some x → g ≤ x) (hF : 2000 < F) :
    iter (fun s : List Int × Int => wirelessref51_Subscribe_l1 F f g s.1 s.2) F ([], 0) = some (f.Subs.take p) := by
  have := iter_count (body := fun s : List Int × Int => wirelessref51_Subscribe_l1 F f g s.1 s.2) (fun i => (f.Subs.take i, (i : Int))) p (f.Subs.take p) (by
    intro i hi
    have hx : f.Subs[i]? = some f.Subs[i] := List.getElem?_eq_getElem (by omega)
    generalize f.Subs[i] = x at hx
    show wirelessref51_Subscribe_l1 F f g (f.Subs.take i) (i : Int) = _
    unfold wirelessref51_Subscribe_l1
    rw [if_pos (dt (by rw [len_nat]; omega)), idx_nat, hx, Option.bind_some, Option.bind_some, if_pos (dt (hlo i x hi hx)), Option.bind_some, app_small (by rw [List.length_take]; simp; omega) (by omega), Option.bind_some, w64_nat i (by omega), List.take_add_one, hx]
    rfl) (by
    show wirelessref51_Subscribe_l1 F f g (f.Subs.take p) (p : Int) = _
    unfold wirelessref51_Subscribe_l1
    by_cases hin : p < f.Subs.length
    · have hx : f.Subs[p]? = some f.Subs[p] := List.getElem?_eq_getElem hin
      generalize f.Subs[p] = x at hx
      have := hhi p x (Nat.le_refl _) hx
      rw [if_pos (dt (by rw [len_nat]; omega)), idx_nat, hx, Option.bind_some, Option.bind_some, if_neg (df (by omega))]
    · rw [if_neg (df (by rw [len_nat]; omega)), Option.bind_some, if_neg (by decide)]) F 0 (by omega) (by omega)
  exact this
theorem subscribe_ok (F : Nat) {f : T_api_Friend} {now : Int} (h : Fi f now) (hn0 : 0 ≤ now) (g : Int) (hF : 2000 < F) : ∃ r, friend_Subscribe F f g now = some r ∧ wirelessref51_Subscribe F f g now = some r ∧ Fi r now := by
  have hsn := h.sn
  unfold friend_Subscribe wirelessref51_Subscribe
  rw [apart_ok F h.ok hF, Option.bind_some]
  have hg : ∀ x : Int, netpdu_Group F x = wirelessref48_Group F x := fun x => rfl
  rw [hg]
  unfold wirelessref48_Group
  rw [Option.bind_some]
  have hz : ∀ b : Bool, ((if (f.Low == 0) = true then some true else some b) : Option Bool) = some ((f.Low == 0) || b) := fun b => by
    cases f.Low == 0 <;> rfl
  rw [hz, Option.bind_some, Option.bind_some]
  by_cases hb : ((f.Low == 0) || !decide (g ≥ 49152)) = true
  · rw [if_pos hb, if_pos hb]
    exact ⟨_, rfl, rfl, h⟩
  · rw [if_neg hb, if_neg hb]
    obtain ⟨p, hp, hbs, hlo, hhi⟩ := bs_ok F h.so (by omega) g hF
    rw [hbs, Option.bind_some, in_ok F _ _ (by omega) hF, Option.bind_some]
    simp only
    by_cases hc : ((!(f.Subs.any fun x => x == g)) && (decide ((len f.Subs) < 64))) = true
    · have hc2 := hc
      simp only [Bool.and_eq_true, Bool.not_eq_true', decide_eq_true_eq] at hc2
      obtain ⟨hany, hlen⟩ := hc2
      rw [len_nat] at hlen
      rw [if_pos hc, if_neg (by rw [hany]; simp; rw [len_nat]; omega)]
      unfold friend_with_uint16
      rw [clone_ok F (by omega), Option.bind_some]
      unfold slices_Insert_uint16_uint16
      rw [if_pos ⟨by omega, by omega, rfl, by omega⟩, Option.bind_some, Option.bind_some, prefix_ok F (by omega) hp hlo hhi hF, Option.bind_some]
      unfold friend_Subscribe_j1 wirelessref51_Subscribe_j1
      have hlt : (f.Subs.take p).length = p := by rw [List.length_take]; omega
      have hsub := sub_nat f.Subs p f.Subs.length hp (Nat.le_refl _)
      rw [List.take_length] at hsub
      rw [app_small (by simp; omega) (by omega), Option.bind_some, len_nat, len_nat, hlt, hsub, Option.bind_some, app_small (by simp; omega) (by omega), Option.bind_some, Int.toNat_natCast]
      refine ⟨_, rfl, rfl, { h with ok := ⟨h.ok.q, h.ok.n, ?_⟩, sn := ?_, so := ?_, p0 := hn0, p1 := Int.le_refl _ }⟩
      · show (f.Subs.take p ++ [g] ++ f.Subs.drop p).length ≤ 100000
        simp; omega
      · show (f.Subs.take p ++ [g] ++ f.Subs.drop p).length ≤ 64
        simp; omega
      · show (f.Subs.take p ++ [g] ++ f.Subs.drop p).Pairwise (· < ·)
        have hd : ∀ x ∈ f.Subs.drop p, g < x := by
          intro x hx
          obtain ⟨k, hk, rfl⟩ := List.getElem_of_mem hx
          have h1 : (f.Subs.drop p)[k]? = some (f.Subs.drop p)[k] := List.getElem?_eq_getElem hk
          rw [List.getElem?_drop] at h1
          have h2 := hhi (p + k) _ (by omega) h1
          have h3 : ¬ (f.Subs.drop p)[k] = g := fun e => by
            have := List.any_eq_false.1 hany _ (List.mem_of_mem_drop (List.getElem_mem hk))
            exact this (by simpa using e)
          omega
        have ht : ∀ x ∈ f.Subs.take p, x < g := by
          intro x hx
          obtain ⟨k, hk, rfl⟩ := List.getElem_of_mem hx
          have h1 : (f.Subs.take p)[k]? = some (f.Subs.take p)[k] := List.getElem?_eq_getElem hk
          rw [List.getElem?_take] at h1
          split at h1
          · rename_i hkp
            exact hlo k _ hkp h1
          · cases h1
        rw [List.append_assoc, List.pairwise_append]
        refine ⟨h.so.sublist (List.take_sublist _ _), ?_, ?_⟩
        · rw [List.singleton_append, List.pairwise_cons]
          exact ⟨hd, h.so.sublist (List.drop_sublist _ _)⟩
        · intro x hx y hy
          have := ht x hx
          rcases List.mem_append.1 hy with hy | hy
          · simp at hy
            omega
          · have := hd y hy
            omega
    · rw [if_neg hc, if_pos (by
        cases ha : (f.Subs.any fun x => x == g) with
        | true => rfl
        | false =>
          rw [ha] at hc
          simp at hc
          simp
          exact hc)]
      exact ⟨_, rfl, rfl, { h with ok := ⟨h.ok.q, h.ok.n, h.ok.s⟩, p0 := hn0, p1 := Int.le_refl _ }⟩
theorem wants_ok (F : Nat) {f : T_api_Friend} {now : Int} (h : Fi f now) (d : Int) (hF : 2000 < F) : ∃ b, friend_Wants F f d = some b ∧ wirelessref51_Wants F f d = some b := by
  have hsn := h.sn
  unfold friend_Wants wirelessref51_Wants
  rw [has_ok F _ _ (by omega) hF, in_ok F _ _ (by omega) hF]
  by_cases h0 : (f.Low != 0) = true
  · rw [if_pos h0]
    by_cases h1 : (d == f.Low) = true
    · rw [if_pos h1]
      exact ⟨_, rfl, rfl⟩
    · rw [if_neg h1]
      by_cases h2 : (d == 65535) = true
      · rw [if_pos h2]
        exact ⟨_, rfl, rfl⟩
      · rw [if_neg h2]
        exact ⟨_, rfl, rfl⟩
  · rw [if_neg h0]
    exact ⟨_, rfl, rfl⟩
theorem serve_ok (F : Nat) {f : T_api_Friend} (o : T_wirelesslaw51_Op) (h : Fi f o.Now) (hq : QOk o.Q) (hn0 : 0 ≤ o.Now) (hn : o.Now ≤ 1099511627776) (hF : 300000 < F) : ∃ r, wirelesslaw51_serve F f o = some (r, true) ∧ Fi r o.Now := by
  unfold wirelesslaw51_serve
  by_cases k0 : (o.Kind == 0) = true
  · obtain ⟨r, h1, h2, h3⟩ := befriend_ok F h hn0 hn o.Address o.Number (by omega)
    rw [if_pos k0, h1, h2, Option.bind_some, Option.bind_some, friend_refl F h3.ok (by omega), Option.bind_some]
    unfold wirelesslaw51_serve_j1
    exact ⟨r.1, by simp, h3⟩
  · rw [if_neg k0]
    by_cases k1 : (o.Kind == 1) = true
    · have h3 := keepS_I h hq
      rw [if_pos k1, keep_ok F h.ok h.n hq (by omega), Option.bind_some, rkeep_ok F h hq (by omega), Option.bind_some, friend_refl F h3.ok (by omega), Option.bind_some]
      exact ⟨_, rfl, h3⟩
    · rw [if_neg k1]
      by_cases k2 : (o.Kind == 2) = true
      · obtain ⟨h3, h4⟩ := pollS_I h o.Number hn0
        rw [if_pos k2, poll_ok F h.ok _ _ (by omega), Option.bind_some, rpoll_ok F h, Option.bind_some, friend_refl F h3.ok (by omega), Option.bind_some, if_pos rfl, queue_refl F _ h4 (by omega), Option.bind_some]
        exact ⟨_, rfl, h3⟩
      · obtain ⟨r, h1, h2, h3⟩ := subscribe_ok F h hn0 o.Group (by omega)
        rw [if_neg k2, h1, h2, Option.bind_some, Option.bind_some, friend_refl F h3.ok (by omega), Option.bind_some]
        exact ⟨_, rfl, h3⟩
theorem serves_law (l : List T_wirelesslaw51_Op) : wirelesslaw51_FriendServes FF l = some true := by
  have hF : FF = 1125899906842624 := rfl
  unfold wirelesslaw51_FriendServes
  rw [lives_ok]
  by_cases hl : len l > 200
  · rw [if_pos (dt hl)]
    rfl
  · rw [if_neg (df hl)]
    rw [len_nat] at hl
    obtain ⟨q, h1, rfl⟩ := iter_by (body := fun s : T_api_Friend × Int × Int => wirelesslaw51_FriendServes_l1 FF l s.1 s.2.1 s.2.2) (fun s => Fi s.1 s.2.1 ∧ 0 ≤ s.2.1 ∧ s.2.1 ≤ 1099511627776 ∧ ∃ i : Nat, s.2.2 = (i : Int) ∧ i ≤ l.length) (fun o => o = .inl ()) (fun s => l.length - s.2.2.toNat) (by
      rintro ⟨p, now, x⟩ ⟨hj, hn0, hn1, i, hx, hi⟩
      simp only at hj hn0 hn1 hx
      subst hx
      show (∃ s', wirelesslaw51_FriendServes_l1 FF l p now (i : Int) = some (.next s') ∧ _) ∨ ∃ o, wirelesslaw51_FriendServes_l1 FF l p now (i : Int) = some (.done o) ∧ _
      unfold wirelesslaw51_FriendServes_l1
      by_cases hin : i < l.length
      · have hxa : l[i]? = some l[i] := List.getElem?_eq_getElem hin
        generalize l[i] = o at hxa
        rw [if_pos (dt (show (i : Int) < len l by rw [len_nat]; omega)), idx_nat, hxa, Option.bind_some]
        unfold wirelesslaw51_fits
        rw [Option.bind_some]
        by_cases hf : (((((decide ((len o.Subs) ≤ 30)) && (decide ((len o.Q.PDU.Payload) ≤ 50))) && (decide ((len o.Q.Lower.Bytes) ≤ 50))) && (decide (o.Now ≥ now))) && (decide (o.Now ≤ 1099511627776))) = true
        · have hf2 := hf
          simp only [Bool.and_eq_true, decide_eq_true_eq] at hf2
          obtain ⟨⟨⟨⟨_, f1⟩, f2⟩, f3⟩, f4⟩ := hf2
          obtain ⟨r, h1, h2⟩ := serve_ok FF o (hj.up f3) (qok f1 f2) (by omega) f4 (by omega)
          obtain ⟨b, h3, h4⟩ := wants_ok FF h2 o.Group (by omega)
          rw [hf, if_neg (by decide), h1, Option.bind_some, if_neg (by simp), h3, h4, Option.bind_some, Option.bind_some, if_neg (by simp), uover FF h2 f4, rover FF h2 f4, Option.bind_some, Option.bind_some]
          unfold wirelesslaw51_FriendServes_j3 wirelesslaw51_FriendServes_j2
          rw [if_neg (by simp), w64_nat i (by omega)]
          exact .inl ⟨_, rfl, ⟨h2, by simp only; omega, f4, i + 1, rfl, hin⟩, by simp only [Int.toNat_natCast]; omega⟩
        · rw [(Bool.not_eq_true _).mp hf, if_pos (by decide)]
          unfold wirelesslaw51_FriendServes_j2
          rw [w64_nat i (by omega)]
          exact .inl ⟨_, rfl, ⟨hj, hn0, hn1, i + 1, rfl, hin⟩, by simp only [Int.toNat_natCast]; omega⟩
      · rw [if_neg (df (show ¬ (i : Int) < len l by rw [len_nat]; omega))]
        exact .inr ⟨_, rfl, rfl⟩) FF (T_api_Friend.mk 0 [] [] 0 false 0 0 0, 0, 0) ⟨⟨⟨by simp, by simp, by simp⟩, by simp, by simp, by simp, by decide, by decide⟩, by decide, by decide, 0, rfl, by omega⟩ (by simp only; omega)
    rw [h1, Option.bind_some]
    unfold wirelesslaw51_FriendServes_j1
    simp only
    rw [lives_ok]
    rfl
end V
end Go.Proofs.Ytphigebccfoppaa
