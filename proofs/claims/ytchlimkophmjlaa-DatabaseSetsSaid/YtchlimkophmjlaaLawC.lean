/-
  Find, Range and Group of the program are those of the reference.
-/
import Derived.Test.YtchlimkophmjlaaLawB
namespace Go.Proofs.Ytchlimkophmjlaa
namespace V
theorem rcheck_good (F : Nat) (db : List T_api_Attribute) (hdb : ∀ a ∈ db, AOk a) (hn : db.length ≤ 9000000000000000) (hF : db.length + 20 < F) (h : wirelessref43_Check F db = some 0) : (∀ i a b, db[i]? = some a → db[i + 1]? = some b → a.Handle < b.Handle) ∧ (∀ a, db[0]? = some a → isv a.f_Type = true) ∧ ∀ a ∈ db, 0 < a.Handle := by
  unfold wirelessref43_Check at h
  by_cases hl : len db > 1000
  · rw [if_pos (dt hl)] at h; cases h
  · rw [if_neg (df hl)] at h
    obtain ⟨o, h1, h2⟩ := iter_by (body := fun s : Int × Int => wirelessref43_Check_l1 F db s.1 s.2)
      (fun s => ∃ i : Nat, s.2 = (i : Int) ∧ i ≤ db.length ∧ 0 ≤ s.1 ∧ (∀ j a b, j + 1 < i → db[j]? = some a → db[j + 1]? = some b → a.Handle < b.Handle) ∧ (∀ a, 0 < i → db[0]? = some a → isv a.f_Type = true) ∧ (∀ j a, j + 1 = i → db[j]? = some a → a.Handle = s.1) ∧ (∀ a ∈ db.take i, 0 < a.Handle))
      (fun o => o = .inl () → (∀ i a b, db[i]? = some a → db[i + 1]? = some b → a.Handle < b.Handle) ∧ (∀ a, db[0]? = some a → isv a.f_Type = true) ∧ ∀ a ∈ db, 0 < a.Handle) (fun s => db.length - s.2.toNat) (by
      rintro ⟨last, x⟩ ⟨i, hx, hi, hp, hs, hf, hlast, hpos⟩
      simp only at hx hp hlast
      subst hx
      show (∃ s', wirelessref43_Check_l1 F db last (i : Int) = some (.next s') ∧ _) ∨ ∃ o, wirelessref43_Check_l1 F db last (i : Int) = some (.done o) ∧ _
      unfold wirelessref43_Check_l1
      by_cases hin : i < db.length
      · have hxa : db[i]? = some db[i] := List.getElem?_eq_getElem hin
        have ha := hdb _ (List.getElem_mem hin)
        generalize hq : db[i] = a at hxa ha
        rw [if_pos (dt (show (i : Int) < len db by rw [len_nat]; omega)), idx_nat, hxa]
        simp only [Option.bind_some]
        by_cases h1 : a.Handle ≤ last
        · rw [if_pos (dt h1)]
          exact .inr ⟨_, rfl, fun h => by cases h⟩
        · rw [if_neg (df h1)]
          have hp2 : ((if decide (a.Perms < 0) = true then some true else some (decide (a.Perms > 15))) : Option Bool) = some (decide (a.Perms < 0) || decide (a.Perms > 15)) := by
            cases decide (a.Perms < 0) <;> rfl
          rw [hp2, Option.bind_some]
          by_cases h2 : (decide (a.Perms < 0) || decide (a.Perms > 15)) = true
          · rw [if_pos h2]
            exact .inr ⟨_, rfl, fun h => by cases h⟩
          · rw [if_neg h2]
            by_cases h3 : len a.Value > 512
            · rw [if_pos (dt h3)]
              exact .inr ⟨_, rfl, fun h => by cases h⟩
            · rw [if_neg (df h3), rwrong F hxa hn ha hF, Option.bind_some]
              by_cases h4 : wrg db i (plc (db.take i)) a = true
              · rw [if_pos h4]
                exact .inr ⟨_, rfl, fun h => by cases h⟩
              · rw [if_neg h4]
                refine .inl ⟨_, rfl, ⟨i + 1, ?_, by omega, ?_, ?_, ?_, ?_, ?_⟩, ?_⟩
                · simp only; exact w64_nat i (by omega)
                · simp only; exact ha.h0
                · intro j c d hj hc hd
                  by_cases hji : j + 1 < i
                  · exact hs j c d hji hc hd
                  · have : j + 1 = i := by omega
                    rw [this, hxa] at hd
                    injection hd with hd
                    subst hd
                    rw [hlast j c this hc]
                    omega
                · intro c _ hc
                  by_cases hi0 : 0 < i
                  · exact hf c hi0 hc
                  · have : i = 0 := by omega
                    subst this
                    rw [hxa] at hc
                    injection hc with hc
                    subst hc
                    cases hv : isv a.f_Type with
                    | true => rfl
                    | false =>
                      exfalso
                      apply h4
                      unfold wrg
                      rw [if_pos (by rw [hv]; rfl)]
                · intro j c hj hc
                  have : j = i := by omega
                  subst this
                  rw [hxa] at hc
                  injection hc with hc
                  rw [hc]
                · intro c hc
                  rw [List.take_add_one, hxa] at hc
                  rcases List.mem_append.1 hc with hc | hc
                  · exact hpos c hc
                  · simp at hc; subst hc; omega
                · simp only; rw [w64_nat i (by omega)]; omega
      · rw [if_neg (df (show ¬ (i : Int) < len db by rw [len_nat]; omega))]
        have hil : i = db.length := by omega
        refine .inr ⟨_, rfl, fun _ => ⟨fun j c d hc hd => hs j c d ?_ hc hd, fun c hc => hf c ?_ hc, fun c hc => hpos c ?_⟩⟩
        · rw [hil]; exact (List.getElem?_eq_some_iff.1 hd).1
        · rw [hil]; exact (List.getElem?_eq_some_iff.1 hc).1
        · rw [hil, List.take_length]; exact hc) F (0, 0) ⟨0, rfl, by omega, by simp, by intro j a b hj; omega, by intro a h; omega, by intro j a hj; omega, by simp⟩ (by simp only; omega)
    rw [h1, Option.bind_some] at h
    cases o with
    | inl u => exact h2 rfl
    | inr e =>
      simp only [Option.some.injEq] at h
      -- an error is not 0
      exfalso
      obtain ⟨o', g1, g2⟩ := iter_by (body := fun s : Int × Int => wirelessref43_Check_l1 F db s.1 s.2) (fun s => ∃ i : Nat, s.2 = (i : Int) ∧ i ≤ db.length) (fun o => ∀ e, o = .inr e → e ≠ 0) (fun s => db.length - s.2.toNat) (by
        rintro ⟨last, x⟩ ⟨i, hx, hi⟩
        simp only at hx
        subst hx
        show (∃ s', wirelessref43_Check_l1 F db last (i : Int) = some (.next s') ∧ _) ∨ ∃ o, wirelessref43_Check_l1 F db last (i : Int) = some (.done o) ∧ _
        unfold wirelessref43_Check_l1
        by_cases hin : i < db.length
        · have hxa : db[i]? = some db[i] := List.getElem?_eq_getElem hin
          have ha := hdb _ (List.getElem_mem hin)
          generalize hq : db[i] = a at hxa ha
          rw [if_pos (dt (show (i : Int) < len db by rw [len_nat]; omega)), idx_nat, hxa]
          simp only [Option.bind_some]
          have hp2 : ((if decide (a.Perms < 0) = true then some true else some (decide (a.Perms > 15))) : Option Bool) = some (decide (a.Perms < 0) || decide (a.Perms > 15)) := by
            cases decide (a.Perms < 0) <;> rfl
          rw [hp2, Option.bind_some, rwrong F hxa hn ha hF, Option.bind_some]
          split
          · exact .inr ⟨_, rfl, fun e h => by injection h with h; subst h; decide⟩
          · split
            · exact .inr ⟨_, rfl, fun e h => by injection h with h; subst h; decide⟩
            · split
              · exact .inr ⟨_, rfl, fun e h => by injection h with h; subst h; decide⟩
              · split
                · exact .inr ⟨_, rfl, fun e h => by injection h with h; subst h; decide⟩
                · exact .inl ⟨_, rfl, ⟨i + 1, by simp only; exact w64_nat i (by omega), by omega⟩, by simp only; rw [w64_nat i (by omega)]; omega⟩
        · rw [if_neg (df (show ¬ (i : Int) < len db by rw [len_nat]; omega))]
          exact .inr ⟨_, rfl, fun e h => by cases h⟩) F (0, 0) ⟨0, rfl, by omega⟩ (by simp only; omega)
      rw [g1] at h1
      injection h1 with h1
      exact g2 e h1 h
theorem fine_ok (F : Nat) (db : List T_api_Attribute) (hdb : ∀ a ∈ db, AOk a) (hn : db.length ≤ 9000000000000000) (hF : db.length + 20 < F) : ∃ b, wirelesslaw43_fine F db = some b ∧ (b = true → db.length ≤ 100 ∧ (∀ a ∈ db, a.Value.length ≤ 8192) ∧ wirelessref43_Check F db = some 0) := by
  unfold wirelesslaw43_fine
  obtain ⟨b, h1, h2⟩ := light_ok F db hdb hn (by omega)
  obtain ⟨e, _, h3⟩ := check_same F db hdb hn hF
  by_cases hl : len db ≤ 100
  · rw [if_pos (dt hl), h1, Option.bind_some, Option.bind_some]
    cases b with
    | false => exact ⟨false, rfl, fun h => by cases h⟩
    | true =>
      rw [if_pos rfl, h3, Option.bind_some, Option.bind_some]
      refine ⟨_, rfl, fun h => ?_⟩
      simp only [beq_iff_eq] at h
      subst h
      rw [len_nat] at hl
      exact ⟨by omega, (h2 rfl).2, rfl⟩
  · rw [if_neg (df hl), Option.bind_some, if_neg (by decide), Option.bind_some]
    exact ⟨false, rfl, fun h => by cases h⟩
def fnd (db : List T_api_Attribute) (h : Int) : Int := match db.findIdx? (fun a => a.Handle == h) with
  | some k => (k : Int)
  | none => -1
theorem ufind (F : Nat) (db : List T_api_Attribute) (h : Int) (hn : db.length ≤ 9000000000000000) (hF : db.length < F) : database_Find F db h = some (fnd db h) := by
  unfold database_Find slices_IndexFunc_api_Attribute_api_Attribute_at53
  have := iter_find (body := fun s : Int × Int => slices_IndexFunc_api_Attribute_api_Attribute_at53_l1 F db s.1 s.2) (fun i => (h, (i : Int))) (l := db) (p := fun a => a.Handle == h) (g := fun k => Sum.inr ((k : Int), h)) (e := Sum.inl h) (by
    intro i x hx
    have hi := (List.getElem?_eq_some_iff.1 hx).1
    show slices_IndexFunc_api_Attribute_api_Attribute_at53_l1 F db h (i : Int) = _
    unfold slices_IndexFunc_api_Attribute_api_Attribute_at53_l1 database_Find_1
    rw [if_pos (dt (by rw [len_nat]; omega)), idx_nat, hx, Option.bind_some, Option.bind_some, w64_nat i (by omega)]
    simp only
    split <;> rfl) (by
    show slices_IndexFunc_api_Attribute_api_Attribute_at53_l1 F db h _ = _
    unfold slices_IndexFunc_api_Attribute_api_Attribute_at53_l1
    rw [if_neg (df (by rw [len_nat]; omega))]) F 0 (by omega) (by omega)
  rw [show ((0 : Nat) : Int) = 0 from rfl] at this
  rw [this, Option.bind_some, List.drop_zero]
  unfold fnd
  cases db.findIdx? (fun a => a.Handle == h) with
  | none => rfl
  | some k => simp
theorem rfind (F : Nat) (db : List T_api_Attribute) (h : Int) (hn : db.length ≤ 9000000000000000) (hF : db.length < F) : wirelessref43_Find F db h = some (fnd db h) := by
  unfold wirelessref43_Find
  have := iter_find (body := fun s : Int => wirelessref43_Find_l1 F db h s) (fun i => (i : Int)) (l := db) (p := fun a => a.Handle == h) (g := fun k => Sum.inr (k : Int)) (e := Sum.inl ()) (by
    intro i x hx
    have hi := (List.getElem?_eq_some_iff.1 hx).1
    show wirelessref43_Find_l1 F db h (i : Int) = _
    unfold wirelessref43_Find_l1
    rw [if_pos (dt (by rw [len_nat]; omega)), idx_nat, hx, Option.bind_some, w64_nat i (by omega)]
    split <;> rfl) (by
    show wirelessref43_Find_l1 F db h _ = _
    unfold wirelessref43_Find_l1
    rw [if_neg (df (by rw [len_nat]; omega))]) F 0 (by omega) (by omega)
  rw [show ((0 : Nat) : Int) = 0 from rfl] at this
  rw [this, Option.bind_some, List.drop_zero]
  unfold fnd
  cases db.findIdx? (fun a => a.Handle == h) with
  | none => rfl
  | some k => simp
theorem copied_ok (F : Nat) {a : T_api_Attribute} (h : a.Value.length ≤ 8192) (hF : 1 < F) : database_copied F a = some a := by
  unfold database_copied
  rw [join_one F _ hF (by omega)]
  rfl
def inr (f l : Int) (a : T_api_Attribute) : Bool := decide (a.Handle ≥ f) && decide (a.Handle ≤ l)
theorem filter_take {α : Type} (l : List α) (p : α → Bool) (i : Nat) {x : α} (hx : l[i]? = some x) : (l.take (i + 1)).filter p = (l.take i).filter p ++ (if p x = true then [x] else []) := by
  rw [List.take_add_one, hx, List.filter_append]
  simp only [Option.toList_some, List.filter_cons, List.filter_nil]
theorem urange (F : Nat) (db : List T_api_Attribute) (f l : Int) (hn : db.length ≤ 1100) (hv : ∀ a ∈ db, a.Value.length ≤ 8192) (hF : db.length + 5 < F) : database_Range F db f l = some (db.filter (inr f l)) := by
  unfold database_Range
  have := iter_count (body := fun s : List T_api_Attribute × Int => database_Range_l1 F db f l s.1 s.2) (fun i => ((db.take i).filter (inr f l), (i : Int))) db.length (db.filter (inr f l)) (by
    intro i hi
    have hx : db[i]? = some db[i] := List.getElem?_eq_getElem hi
    have ha := hv _ (List.getElem_mem hi)
    generalize db[i] = a at hx ha
    have hlen : ((db.take i).filter (inr f l)).length ≤ i := Nat.le_trans (List.length_filter_le ..) (by simp; omega)
    show database_Range_l1 F db f l _ (i : Int) = _
    unfold database_Range_l1
    rw [if_pos (dt (by rw [len_nat]; omega)), idx_nat, hx, Option.bind_some, copied_ok F ha (by omega), Option.bind_some, app_small (by simp only [List.length_cons, List.length_nil]; omega) (by decide), Option.bind_some, filter_take db _ i hx]
    unfold database_Range_j2
    rw [w64_nat i (by omega)]
    by_cases hp : inr f l a = true
    · rw [if_pos hp, if_pos (show (decide (a.Handle ≥ f) && decide (a.Handle ≤ l)) = true from hp)]
    · rw [if_neg hp, if_neg (show ¬ (decide (a.Handle ≥ f) && decide (a.Handle ≤ l)) = true from hp), List.append_nil]) (by
    show database_Range_l1 F db f l _ _ = _
    unfold database_Range_l1
    rw [if_neg (df (by rw [len_nat]; omega)), List.take_length]) F 0 (by omega) (by omega)
  have h0 : ((List.filter (inr f l) (List.take 0 db), ((0 : Nat) : Int)) : List T_api_Attribute × Int) = ([], 0) := by simp
  rw [h0] at this
  rw [this]
  rfl
theorem rrange (F : Nat) (db : List T_api_Attribute) (f l : Int) (hn : db.length ≤ 1100) (hF : db.length + 5 < F) : wirelessref43_Range F db f l = some (db.filter (inr f l)) := by
  unfold wirelessref43_Range
  have := iter_count (body := fun s : List T_api_Attribute × Int => wirelessref43_Range_l1 F db f l s.1 s.2) (fun i => ((db.take i).filter (inr f l), (i : Int))) db.length (db.filter (inr f l)) (by
    intro i hi
    have hx : db[i]? = some db[i] := List.getElem?_eq_getElem hi
    generalize db[i] = a at hx
    have hlen : ((db.take i).filter (inr f l)).length ≤ i := Nat.le_trans (List.length_filter_le ..) (by simp; omega)
    show wirelessref43_Range_l1 F db f l _ (i : Int) = _
    unfold wirelessref43_Range_l1
    rw [if_pos (dt (by rw [len_nat]; omega)), idx_nat, hx, Option.bind_some, Option.bind_some, Option.bind_some, app_small (by simp only [List.length_cons, List.length_nil]; omega) (by decide), Option.bind_some, filter_take db _ i hx]
    have hz : ((if decide (a.Handle ≥ f) = true then some (decide (a.Handle ≤ l)) else some false) : Option Bool) = some (inr f l a) := by
      unfold inr
      cases decide (a.Handle ≥ f) <;> rfl
    rw [hz, Option.bind_some]
    unfold wirelessref43_Range_j2
    rw [w64_nat i (by omega)]
    by_cases hp : inr f l a = true
    · rw [if_pos hp, if_pos hp]
    · rw [if_neg hp, if_neg hp, List.append_nil]) (by
    show wirelessref43_Range_l1 F db f l _ _ = _
    unfold wirelessref43_Range_l1
    rw [if_neg (df (by rw [len_nat]; omega)), List.take_length]) F 0 (by omega) (by omega)
  have h0 : ((List.filter (inr f l) (List.take 0 db), ((0 : Nat) : Int)) : List T_api_Attribute × Int) = ([], 0) := by simp
  rw [h0] at this
  rw [this]
  rfl
theorem sameDB (F : Nat) (db : List T_api_Attribute) (hn : db.length ≤ 9000000000000000) (hF : db.length < F) : wirelessref43_SameDB F db db = some true := by
  unfold wirelessref43_SameDB
  rw [if_neg (by simp)]
  have := iter_count (body := fun s : Int => wirelessref43_SameDB_l1 F db db s) (fun i => (i : Int)) db.length (.inl ()) (by
    intro i hi
    have hx : db[i]? = some db[i] := List.getElem?_eq_getElem hi
    show wirelessref43_SameDB_l1 F db db (i : Int) = _
    unfold wirelessref43_SameDB_l1
    rw [if_pos (dt (by rw [len_nat]; omega)), idx_nat, hx]
    simp only [Option.bind_some]
    rw [if_neg (by simp), if_neg (by simp), if_neg (by simp), same_refl, Option.bind_some]
    unfold wirelessref43_SameDB_j2
    rw [if_neg (by decide), w64_nat i (by omega)]) (by
    show wirelessref43_SameDB_l1 F db db _ = _
    unfold wirelessref43_SameDB_l1
    rw [if_neg (df (by rw [len_nat]; omega))]) F 0 (by omega) (by omega)
  rw [show ((0 : Nat) : Int) = 0 from rfl] at this
  rw [this]
  rfl

/-! ### Groups -/
def run (l : List T_api_Attribute) : Nat := (l.takeWhile fun a => !isv a.f_Type).length
theorem run_lt : ∀ {l : List T_api_Attribute} {j : Nat}, j < run l → ∃ a, l[j]? = some a ∧ isv a.f_Type = false
  | [], _, h => by simp [run] at h
  | a :: l, j, h => by
    unfold run at h
    rw [List.takeWhile_cons] at h
    by_cases hp : isv a.f_Type = true
    · simp [hp] at h
    · have hp := (Bool.not_eq_true _).mp hp
      simp only [hp, Bool.not_false, if_true, List.length_cons] at h
      cases j with
      | zero => exact ⟨a, rfl, hp⟩
      | succ j => exact run_lt (l := l) (j := j) (by unfold run; omega)
theorem run_at : ∀ {l : List T_api_Attribute} {a : T_api_Attribute}, l[run l]? = some a → isv a.f_Type = true
  | [], _, h => by simp at h
  | b :: l, a, h => by
    unfold run at h
    rw [List.takeWhile_cons] at h
    by_cases hp : isv b.f_Type = true
    · simp [hp] at h
      subst h
      exact hp
    · have hp := (Bool.not_eq_true _).mp hp
      simp only [hp, Bool.not_false, if_true, List.length_cons, List.getElem?_cons_succ] at h
      exact run_at (l := l) h
theorem run_le (l : List T_api_Attribute) : run l ≤ l.length := (List.takeWhile_sublist _).length_le
def hnd (db : List T_api_Attribute) (i : Nat) : Int := match db[i]? with
  | some a => a.Handle
  | none => 0
/-- The last attribute of the service that begins at k. -/
def lst (db : List T_api_Attribute) (k : Nat) : Nat := k + run (db.drop (k + 1))
def grp (db : List T_api_Attribute) (h : Int) : Int × Bool := match db.findIdx? (fun a => a.Handle == h) with
  | none => (0, false)
  | some k => match db[k]? with
    | none => (0, false)
    | some a => if isv a.f_Type = true then (hnd db (lst db k), true) else (0, false)
theorem lst_lt {db : List T_api_Attribute} {k : Nat} (h : k < db.length) : lst db k < db.length := by
  have := run_le (db.drop (k + 1))
  rw [List.length_drop] at this
  unfold lst
  omega
theorem find_some {db : List T_api_Attribute} {h : Int} {k : Nat} (hk : db.findIdx? (fun a => a.Handle == h) = some k) : ∃ a, db[k]? = some a ∧ a.Handle = h := by
  obtain ⟨h1, h2, _⟩ := List.findIdx?_eq_some_iff_getElem.1 hk
  exact ⟨db[k], List.getElem?_eq_getElem h1, by simpa using h2⟩
theorem ugroup (F : Nat) (db : List T_api_Attribute) (hdb : ∀ a ∈ db, AOk a) (h : Int) (hn : db.length ≤ 9000000000000000) (hF : db.length + 20 < F) : database_Group F db h = some (grp db h) := by
  unfold database_Group grp
  rw [ufind F db h hn (by omega), Option.bind_some]
  unfold fnd
  cases hk : db.findIdx? (fun a => a.Handle == h) with
  | none => rfl
  | some k =>
    obtain ⟨a, hx, hh⟩ := find_some hk
    have hkl := (List.getElem?_eq_some_iff.1 hx).1
    have ha := hdb a (List.mem_of_getElem? hx)
    simp only
    rw [if_neg (df (show ¬ (k : Int) < 0 by omega)), idx_nat, hx, Option.bind_some, service_ok F ha.u (by omega), Option.bind_some, Option.bind_some]
    by_cases hs : isv a.f_Type = true
    · rw [hs, if_neg (by decide)]
      show _ = some (if isv a.f_Type = true then (hnd db (lst db k), true) else ((0, false) : Int × Bool))
      rw [if_pos hs]
      have := iter_count (body := fun s : Int => database_Group_l1 F db s) (fun j => ((k + j : Nat) : Int)) (run (db.drop (k + 1))) ((lst db k : Nat) : Int) (by
        intro j hj
        obtain ⟨b, hb, hbs⟩ := run_lt hj
        rw [List.getElem?_drop] at hb
        have hbl := (List.getElem?_eq_some_iff.1 hb).1
        have hbo := hdb b (List.mem_of_getElem? hb)
        show database_Group_l1 F db ((k + j : Nat) : Int) = _
        unfold database_Group_l1
        have hw : w64 (((k + j : Nat) : Int) + 1) = ((k + 1 + j : Nat) : Int) := by rw [w64_nat _ (by omega)]; omega
        rw [hw, if_pos (dt (by rw [len_nat]; omega)), idx_nat, hb, Option.bind_some, service_ok F hbo.u (by omega), Option.bind_some, Option.bind_some, hbs, if_pos (by decide), show k + 1 + j = k + (j + 1) from by omega]) (by
        show database_Group_l1 F db ((k + run (db.drop (k + 1)) : Nat) : Int) = _
        have hll := lst_lt hkl
        unfold lst at hll ⊢
        unfold database_Group_l1
        have hw : w64 (((k + run (db.drop (k + 1)) : Nat) : Int) + 1) = ((k + 1 + run (db.drop (k + 1)) : Nat) : Int) := by rw [w64_nat _ (by omega)]; omega
        rw [hw]
        by_cases he : k + 1 + run (db.drop (k + 1)) < db.length
        · have hb : db[k + 1 + run (db.drop (k + 1))]? = some db[k + 1 + run (db.drop (k + 1))] := List.getElem?_eq_getElem he
          have hbo := hdb _ (List.getElem_mem he)
          generalize db[k + 1 + run (db.drop (k + 1))] = b at hb hbo
          have hbs : isv b.f_Type = true := run_at (l := db.drop (k + 1)) (by rw [List.getElem?_drop]; exact hb)
          rw [if_pos (dt (by rw [len_nat]; omega)), idx_nat, hb, Option.bind_some, service_ok F hbo.u (by omega), Option.bind_some, Option.bind_some, hbs, if_neg (by decide)]
        · rw [if_neg (df (by rw [len_nat]; omega)), Option.bind_some, if_neg (by decide)]) F 0 (by omega) (by have := run_le (db.drop (k + 1)); rw [List.length_drop] at this; omega)
      rw [show ((k + 0 : Nat) : Int) = (k : Int) from rfl] at this
      rw [this, Option.bind_some]
      unfold database_Group_j1 hnd
      rw [idx_nat, List.getElem?_eq_getElem (lst_lt hkl)]
      rfl
    · rw [(Bool.not_eq_true _).mp hs, if_pos (by decide)]
      show _ = some (if isv a.f_Type = true then (hnd db (lst db k), true) else ((0, false) : Int × Bool))
      rw [if_neg hs]
theorem rgroup (F : Nat) (db : List T_api_Attribute) (hdb : ∀ a ∈ db, AOk a) (h : Int) (hn : db.length ≤ 9000000000000000) (hF : db.length + 20 < F) : wirelessref43_Group F db h = some (grp db h) := by
  unfold wirelessref43_Group grp
  rw [rfind F db h hn (by omega), Option.bind_some]
  unfold fnd
  cases hk : db.findIdx? (fun a => a.Handle == h) with
  | none => rfl
  | some k =>
    obtain ⟨a, hx, hh⟩ := find_some hk
    have hkl := (List.getElem?_eq_some_iff.1 hx).1
    simp only
    rw [if_neg (df (show ¬ (k : Int) < 0 by omega)), idx_nat, hx, Option.bind_some, rIsService, Option.bind_some, Option.bind_some]
    by_cases hs : isv a.f_Type = true
    · rw [hs, if_neg (by decide)]
      show _ = some (if isv a.f_Type = true then (hnd db (lst db k), true) else ((0, false) : Int × Bool))
      rw [if_pos hs]
      have := iter_count (body := fun s : Int × Int => wirelessref43_Group_l1 F db s.1 s.2) (fun j => (hnd db (k + j), ((k + 1 + j : Nat) : Int))) (run (db.drop (k + 1))) (hnd db (lst db k)) (by
        intro j hj
        obtain ⟨b, hb, hbs⟩ := run_lt hj
        rw [List.getElem?_drop] at hb
        have hbl := (List.getElem?_eq_some_iff.1 hb).1
        show wirelessref43_Group_l1 F db _ ((k + 1 + j : Nat) : Int) = _
        unfold wirelessref43_Group_l1
        rw [if_pos (dt (by rw [len_nat]; omega)), idx_nat, hb]
        simp only [Option.bind_some]
        rw [rIsService, Option.bind_some, Option.bind_some, hbs, if_pos (by decide), w64_nat _ (by omega)]
        unfold hnd
        rw [show k + (j + 1) = k + 1 + j from by omega, hb]
        rfl) (by
        show wirelessref43_Group_l1 F db _ ((k + 1 + run (db.drop (k + 1)) : Nat) : Int) = _
        unfold wirelessref43_Group_l1
        by_cases he : k + 1 + run (db.drop (k + 1)) < db.length
        · have hb : db[k + 1 + run (db.drop (k + 1))]? = some db[k + 1 + run (db.drop (k + 1))] := List.getElem?_eq_getElem he
          generalize db[k + 1 + run (db.drop (k + 1))] = b at hb
          have hbs : isv b.f_Type = true := run_at (l := db.drop (k + 1)) (by rw [List.getElem?_drop]; exact hb)
          rw [if_pos (dt (by rw [len_nat]; omega)), idx_nat, hb, Option.bind_some, rIsService, Option.bind_some, Option.bind_some, hbs, if_neg (by decide)]
          rfl
        · rw [if_neg (df (by rw [len_nat]; omega)), Option.bind_some, if_neg (by decide)]
          rfl) F 0 (by omega) (by have := run_le (db.drop (k + 1)); rw [List.length_drop] at this; omega)
      have e : (hnd db (k + 0), ((k + 1 + 0 : Nat) : Int)) = (h, w64 ((k : Int) + 1)) := by
        rw [w64_nat k (by omega)]
        unfold hnd
        rw [show k + 0 = k from rfl, hx]
        simp only
        rw [hh]
      rw [e] at this
      rw [this]
      rfl
    · rw [(Bool.not_eq_true _).mp hs, if_pos (by decide)]
      show _ = some (if isv a.f_Type = true then (hnd db (lst db k), true) else ((0, false) : Int × Bool))
      rw [if_neg hs]
end V
end Go.Proofs.Ytchlimkophmjlaa
