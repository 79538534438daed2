/-
  Lists of bonds: what they are after a bond was added or used.
-/
import Derived.Test.YtbdhonofhlpdoaaDoorLawA
namespace Go.Proofs.YtbdhonofhlpdoaaDoor
namespace V
def Few (l : List T_api_Bond) : Prop := ∀ b ∈ l, b.Subs.length ≤ 1000
theorem own_ok (F : Nat) (b : T_api_Bond) (h : b.Subs.length ≤ 1000) : bonds_own F b = some b := by
  unfold bonds_own slices_Clone_api_Subscription_api_Subscription
  rw [app_small (by simp; omega) (by omega), Option.bind_some, Option.bind_some, List.nil_append]
theorem clone_ok (F : Nat) (l : List T_api_Bond) (hF : 2000 < F) (hl : l.length ≤ 1000) (hs : Few l) : bonds_clone F l = some l := by
  unfold bonds_clone bonds_clone_j1
  have hn := len_nat l
  rw [w64_id (by omega) (by omega)]
  unfold mkc
  rw [if_pos (by omega), Option.bind_some]
  have := iter_count (body := fun s : List T_api_Bond × Int => bonds_clone_l1 F l s.1 s.2) (fun i => (l.take i, (i : Int))) l.length l (fun i hi => by
    have hx : l[i]? = some l[i] := List.getElem?_eq_getElem hi
    have hm := hs _ (List.getElem_mem hi)
    show bonds_clone_l1 F l _ _ = _
    unfold bonds_clone_l1
    rw [if_pos (by simp [len]; omega), idx_nat, hx, Option.bind_some, own_ok F _ hm, Option.bind_some, app_small (by simp; omega) (by omega), Option.bind_some, w64_nat i (by omega)]
    have : l.take i ++ [l[i]] = l.take (i + 1) := by rw [List.take_add_one, hx]; rfl
    rw [this]) (by
    show bonds_clone_l1 F l _ _ = _
    unfold bonds_clone_l1
    rw [if_neg (by simp [len]), List.take_length]) F 0 (by omega) (by omega)
  rw [List.take_zero, show ((0 : Nat) : Int) = 0 from rfl] at this
  show (iter (fun s : List T_api_Bond × Int => bonds_clone_l1 F l s.1 s.2) F ([], 0)).bind _ = _
  rw [this]
  rfl
/-- The greatest use. -/
def great (l : List T_api_Bond) : Int := l.foldl (fun g b => imax g b.Used) 0
theorem great_ok (F : Nat) (l : List T_api_Bond) (hF : 2000 < F) (hl : l.length ≤ 1000) : bonds_greatest F l = some (great l) := by
  unfold bonds_greatest bonds_greatest_j1
  have := iter_count (body := fun s : Int × Int => bonds_greatest_l1 F l s.1 s.2) (fun i => (great (l.take i), (i : Int))) l.length (great l) (fun i hi => by
    have hx : l[i]? = some l[i] := List.getElem?_eq_getElem hi
    show bonds_greatest_l1 F l _ _ = _
    unfold bonds_greatest_l1
    rw [if_pos (by simp [len]; omega), idx_nat, hx, Option.bind_some, w64_nat i (by omega)]
    have : great (l.take (i + 1)) = imax (great (l.take i)) l[i].Used := by
      unfold great
      rw [List.take_add_one, hx, List.foldl_append]
      rfl
    rw [this]) (by
    show bonds_greatest_l1 F l _ _ = _
    unfold bonds_greatest_l1
    rw [if_neg (by simp [len]), List.take_length]) F 0 (by omega) (by omega)
  rw [List.take_zero, show ((0 : Nat) : Int) = 0 from rfl] at this
  rw [show (0 : Int) = great [] from rfl]
  show (iter (fun s : Int × Int => bonds_greatest_l1 F l s.1 s.2) F (great [], 0)).bind _ = _
  rw [this]
  rfl
theorem imax_ge (x y : Int) : x ≤ imax x y ∧ y ≤ imax x y ∧ (imax x y = x ∨ imax x y = y) := by
  unfold imax
  split <;> omega
theorem foldl_great : ∀ (l : List T_api_Bond) (g : Int), g ≤ l.foldl (fun g b => imax g b.Used) g ∧ (∀ b ∈ l, b.Used ≤ l.foldl (fun g b => imax g b.Used) g) ∧ (l.foldl (fun g b => imax g b.Used) g = g ∨ ∃ b ∈ l, l.foldl (fun g b => imax g b.Used) g = b.Used)
  | [], g => ⟨Int.le_refl _, (fun b h => by cases h), .inl rfl⟩
  | b :: l, g => by
    obtain ⟨h1, h2, h3⟩ := foldl_great l (imax g b.Used)
    obtain ⟨k1, k2, k3⟩ := imax_ge g b.Used
    rw [List.foldl_cons]
    refine ⟨by omega, fun c hc => ?_, ?_⟩
    · rcases List.mem_cons.1 hc with rfl | hc
      · omega
      · exact h2 c hc
    · rcases h3 with h3 | ⟨c, hc, h3⟩
      · rcases k3 with k3 | k3
        · exact .inl (h3.trans k3)
        · exact .inr ⟨b, by simp, h3.trans k3⟩
      · exact .inr ⟨c, by simp [hc], h3⟩
theorem great_le {l : List T_api_Bond} {b : T_api_Bond} (h : b ∈ l) : b.Used ≤ great l := (foldl_great l 0).2.1 b h
theorem great_nonneg (l : List T_api_Bond) : 0 ≤ great l := (foldl_great l 0).1
theorem great_lt {l : List T_api_Bond} {m : Int} (h0 : 0 ≤ m) (h : ∀ b ∈ l, b.Used ≤ m) : great l ≤ m := by
  rcases (foldl_great l 0).2.2 with h1 | ⟨b, hb, h1⟩
  · exact Int.le_trans (Int.le_of_eq h1) h0
  · exact Int.le_trans (Int.le_of_eq h1) (h b hb)
/-! ### Ranks -/
def before (us : List Int) (k i : Nat) : Bool := decide (us.getD k 0 < us.getD i 0) || (us.getD k 0 == us.getD i 0 && decide (k < i))
def rank (us : List Int) (i : Nat) : Nat := (List.range us.length).countP fun k => before us k i
theorem before_iff (us : List Int) (k i : Nat) : before us k i = true ↔ us.getD k 0 < us.getD i 0 ∨ (us.getD k 0 = us.getD i 0 ∧ k < i) := by
  unfold before
  simp
theorem before_irr (us : List Int) (i : Nat) : before us i i = false := by
  rw [Bool.eq_false_iff]
  intro h
  rw [before_iff] at h
  omega
theorem before_trans {us : List Int} {k i j : Nat} (h1 : before us k i = true) (h2 : before us i j = true) : before us k j = true := by
  rw [before_iff] at h1 h2 ⊢
  omega
theorem countP_lt {α : Type} {p q : α → Bool} : ∀ {l : List α}, (∀ x ∈ l, p x = true → q x = true) → (∃ x ∈ l, p x = false ∧ q x = true) → l.countP p < l.countP q
  | [], _, ⟨x, hx, _⟩ => by cases hx
  | a :: l, h, ⟨x, hx, h1, h2⟩ => by
    have hle : l.countP p ≤ l.countP q := List.countP_mono_left fun y hy hp => h y (by simp [hy]) hp
    rw [List.countP_cons, List.countP_cons]
    rcases List.mem_cons.1 hx with rfl | hx
    · rw [h1, h2]
      simp
      omega
    · have := countP_lt (l := l) (fun y hy => h y (by simp [hy])) ⟨x, hx, h1, h2⟩
      by_cases hpa : p a = true
      · rw [hpa, h a (by simp) hpa]
        simp
        omega
      · rw [Bool.eq_false_iff.2 hpa]
        simp
        omega
theorem rank_lt {us : List Int} {k i : Nat} (hk : k < us.length) (h : before us k i = true) : rank us k < rank us i :=
  countP_lt (fun _ _ hx => before_trans hx h) ⟨k, by simpa using hk, before_irr us k, h⟩
theorem rank_len {us : List Int} {i : Nat} (hi : i < us.length) : rank us i < us.length := by
  have h1 : rank us i < (List.range us.length).countP fun _ => true := countP_lt (fun _ _ _ => rfl) ⟨i, by simpa using hi, before_irr us i, rfl⟩
  simpa using h1
def used (l : List T_api_Bond) : List Int := l.map (·.Used)
theorem used_getD {l : List T_api_Bond} {i : Nat} {b : T_api_Bond} (h : l[i]? = some b) : (used l).getD i 0 = b.Used := by
  unfold used
  rw [List.getD_eq_getElem?_getD, List.getElem?_map, h]
  rfl
/-- The first bonds with their ranks. -/
def rkTo (l : List T_api_Bond) (n : Nat) : List T_api_Bond := l.mapIdx fun q b => if q < n then { b with Used := (rank (used l) q : Int) } else b
def rk (l : List T_api_Bond) : List T_api_Bond := l.mapIdx fun q b => { b with Used := (rank (used l) q : Int) }
theorem rkTo_zero (l : List T_api_Bond) : rkTo l 0 = l := by
  unfold rkTo
  apply List.ext_getElem?
  intro i
  rw [List.getElem?_mapIdx]
  cases l[i]? <;> simp
theorem rkTo_all (l : List T_api_Bond) : rkTo l l.length = rk l := by
  unfold rkTo rk
  apply List.ext_getElem?
  intro i
  rw [List.getElem?_mapIdx, List.getElem?_mapIdx]
  cases h : l[i]? with
  | none => rfl
  | some b =>
    have := (List.getElem?_eq_some_iff.1 h).1
    simp [this]
theorem rkTo_len (l : List T_api_Bond) (n : Nat) : (rkTo l n).length = l.length := by unfold rkTo; simp
theorem rk_len (l : List T_api_Bond) : (rk l).length = l.length := by unfold rk; simp
theorem rk_get {l : List T_api_Bond} {i : Nat} {b : T_api_Bond} (h : l[i]? = some b) : (rk l)[i]? = some { b with Used := (rank (used l) i : Int) } := by
  unfold rk
  rw [List.getElem?_mapIdx, h]
  rfl
theorem rkTo_step {l : List T_api_Bond} {i : Nat} {b : T_api_Bond} (h : l[i]? = some b) : (rkTo l i)[i]? = some b ∧ (rkTo l i).set i { b with Used := (rank (used l) i : Int) } = rkTo l (i + 1) := by
  have hlt := (List.getElem?_eq_some_iff.1 h).1
  refine ⟨?_, ?_⟩
  · unfold rkTo
    rw [List.getElem?_mapIdx, h]
    simp
  · apply List.ext_getElem?
    intro q
    by_cases hq : q = i
    · subst hq
      rw [List.getElem?_set_self (by rw [rkTo_len]; exact hlt)]
      unfold rkTo
      rw [List.getElem?_mapIdx, h]
      simp
    · rw [List.getElem?_set_ne (fun e => hq e.symm)]
      unfold rkTo
      rw [List.getElem?_mapIdx, List.getElem?_mapIdx]
      cases l[q]? with
      | none => rfl
      | some c =>
        simp only [Option.map_some]
        by_cases h1 : q < i
        · rw [if_pos h1, if_pos (by omega)]
        · rw [if_neg h1, if_neg (by omega)]
theorem rank_ok (F : Nat) (l : List T_api_Bond) (i : Nat) (b : T_api_Bond) (hF : 2000 < F) (hl : l.length ≤ 1000) (hb : l[i]? = some b) : iter (fun s : Int × Int => bonds_ranked_l2 F l i b s.1 s.2) F (0, 0) = some (rank (used l) i : Int) := by
  have hle : ∀ k, k ≤ l.length → (List.range k).countP (fun k => before (used l) k i) ≤ 1000 := fun k hk => by
    have := List.countP_le_length (p := fun k => before (used l) k i) (l := List.range k)
    rw [List.length_range] at this
    omega
  have := iter_count (body := fun s : Int × Int => bonds_ranked_l2 F l i b s.1 s.2) (fun k => (((List.range k).countP (fun k => before (used l) k i) : Nat), (k : Int))) l.length (rank (used l) i : Int) (fun k hk => by
    have hx : l[k]? = some l[k] := List.getElem?_eq_getElem hk
    have h1 := hle k (by omega)
    show bonds_ranked_l2 F l i b _ _ = _
    unfold bonds_ranked_l2 bonds_ranked_j4
    rw [if_pos (by simp [len]; omega), idx_nat, hx, Option.bind_some, w64_nat k (by omega), w64_nat _ (by omega), List.range_succ, List.countP_append, List.countP_singleton]
    have e : ((decide (l[k].Used < b.Used)) || ((l[k].Used == b.Used) && (decide ((k : Int) < (i : Int))))) = before (used l) k i := by
      unfold before
      rw [used_getD hx, used_getD hb]
      congr 2
      exact decide_eq_decide.2 (by omega)
    rw [e]
    cases before (used l) k i <;> rfl) (by
    show bonds_ranked_l2 F l i b _ _ = _
    unfold bonds_ranked_l2
    rw [if_neg (by simp [len])]
    unfold rank
    rw [show (used l).length = l.length by unfold used; simp]) F 0 (by omega) (by omega)
  exact this
theorem ranked_ok (F : Nat) (l : List T_api_Bond) (hF : 2000 < F) (hl : l.length ≤ 1000) (hs : Few l) : bonds_ranked F l = some (rk l) := by
  unfold bonds_ranked bonds_ranked_j1
  rw [clone_ok F l hF hl hs, Option.bind_some]
  have := iter_count (body := fun s : List T_api_Bond × Int => bonds_ranked_l1 F l s.1 s.2) (fun i => (rkTo l i, (i : Int))) l.length (rk l) (fun i hi => by
    have hx : l[i]? = some l[i] := List.getElem?_eq_getElem hi
    obtain ⟨h1, h2⟩ := rkTo_step hx
    show bonds_ranked_l1 F l _ _ = _
    unfold bonds_ranked_l1 bonds_ranked_j3 bonds_ranked_j2
    rw [if_pos (by simp [len]; omega), idx_nat, hx, Option.bind_some, rank_ok F l i _ hF hl hx, Option.bind_some, idx_nat, h1, Option.bind_some]
    unfold upd
    rw [if_pos (by rw [rkTo_len]; omega), Option.bind_some, w64_nat i (by omega)]
    show some (Out.next ((rkTo l i).set i _, _)) = _
    rw [h2]) (by
    show bonds_ranked_l1 F l _ _ = _
    unfold bonds_ranked_l1
    rw [if_neg (by simp [len]), rkTo_all]) F 0 (by omega) (by omega)
  rw [rkTo_zero, show ((0 : Nat) : Int) = 0 from rfl] at this
  rw [this]
  rfl
/-- The bonds of a list with room for one more use, and the number of that use. -/
def nxt (l : List T_api_Bond) : List T_api_Bond × Int := if great l ≥ 4294967295 then (rk l, great (rk l) + 1) else (l, great l + 1)
/-- A list of few bonds, not used too often. -/
structure Ok (l : List T_api_Bond) : Prop where
  len : l.length ≤ 16
  few : Few l
  used : ∀ b ∈ l, 0 ≤ b.Used ∧ b.Used ≤ 4294967295
theorem great_rk (l : List T_api_Bond) : great (rk l) ≤ l.length := by
  refine great_lt (by omega) fun b hb => ?_
  obtain ⟨i, hi⟩ := List.getElem?_of_mem hb
  have hlt := (List.getElem?_eq_some_iff.1 hi).1
  rw [rk_len] at hlt
  rw [rk_get (List.getElem?_eq_getElem hlt)] at hi
  injection hi with hi
  subst hi
  have := rank_len (us := used l) (i := i) (by unfold used; simpa using hlt)
  unfold used at this
  rw [List.length_map] at this
  show ((rank (V.used l) i : Nat) : Int) ≤ _
  unfold used
  omega
theorem rk_few {l : List T_api_Bond} (h : Few l) : Few (rk l) := fun b hb => by
  obtain ⟨i, hi⟩ := List.getElem?_of_mem hb
  have hlt := (List.getElem?_eq_some_iff.1 hi).1
  rw [rk_len] at hlt
  rw [rk_get (List.getElem?_eq_getElem hlt)] at hi
  injection hi with hi
  subst hi
  exact h l[i] (List.getElem_mem hlt)
theorem nxt_ok (F : Nat) (l : List T_api_Bond) (hF : 2000 < F) (h : Ok l) : bonds_next F l = some (nxt l) := by
  have hl := h.len
  unfold bonds_next bonds_next_j1 nxt
  rw [clone_ok F l hF (by omega) h.few, Option.bind_some, great_ok F l hF (by omega), Option.bind_some]
  have hg := great_lt (m := 4294967295) (by omega) fun b hb => (h.used b hb).2
  have h0 := great_nonneg l
  by_cases hc : great l ≥ 4294967295
  · rw [if_pos (by simpa using hc), if_pos hc, ranked_ok F l hF (by omega) h.few, Option.bind_some, great_ok F _ hF (by rw [rk_len]; omega), Option.bind_some]
    have h1 := great_rk l
    have h2 := great_nonneg (rk l)
    rw [w64_id (by omega) (by omega)]
  · rw [if_neg (by simpa using hc), if_neg hc, Option.bind_some, w64_id (by omega) (by omega)]
/-- What is kept of each bond. -/
theorem nxt_len (l : List T_api_Bond) : (nxt l).1.length = l.length := by
  unfold nxt
  split
  · exact rk_len l
  · rfl
theorem nxt_get {l : List T_api_Bond} (h : Ok l) {i : Nat} {b : T_api_Bond} (hb : l[i]? = some b) : ∃ u, (nxt l).1[i]? = some { b with Used := u } ∧ 0 ≤ u ∧ u < (nxt l).2 := by
  unfold nxt
  split
  · have h1 := rk_get hb
    exact ⟨_, h1, by omega, Int.lt_add_one_of_le (great_le (b := { b with Used := _ }) (List.mem_of_getElem? h1))⟩
  · exact ⟨b.Used, hb, (h.used b (List.mem_of_getElem? hb)).1, Int.lt_add_one_of_le (great_le (List.mem_of_getElem? hb))⟩
theorem nxt_used {l : List T_api_Bond} (h : Ok l) : 0 < (nxt l).2 ∧ (nxt l).2 ≤ 4294967295 := by
  have h1 := great_rk l
  have h2 := great_nonneg (rk l)
  have h3 := great_nonneg l
  have h4 := h.len
  unfold nxt
  split <;> simp only <;> omega
/-- What was used later still is. -/
theorem nxt_lt {l : List T_api_Bond} {i k : Nat} {b c x y : T_api_Bond} (hb : l[i]? = some b) (hc : l[k]? = some c) (hlt : b.Used < c.Used) (hx : (nxt l).1[i]? = some x) (hy : (nxt l).1[k]? = some y) : x.Used < y.Used := by
  unfold nxt at hx hy
  split at hx
  · rename_i hg
    rw [if_pos hg] at hy
    rw [rk_get hb] at hx
    rw [rk_get hc] at hy
    injection hx with hx
    injection hy with hy
    subst hx; subst hy
    have := rank_lt (us := used l) (k := i) (i := k) (by unfold used; simpa using (List.getElem?_eq_some_iff.1 hb).1) (by rw [before_iff, used_getD hb, used_getD hc]; exact .inl hlt)
    show ((rank (used l) i : Nat) : Int) < ((rank (used l) k : Nat) : Int)
    omega
  · rename_i hg
    rw [if_neg hg] at hy
    rw [hb] at hx
    rw [hc] at hy
    injection hx with hx
    injection hy with hy
    subst hx; subst hy
    exact hlt
end V
end Go.Proofs.YtbdhonofhlpdoaaDoor
