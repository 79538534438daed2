/-
  A valid database: what Check says of it; what is found in it.
-/
import Derived.Test.YtchlimkophmjlaaLawM
namespace Go.Proofs.Ytchlimkophmjlaa
namespace V
structure Good (db : List T_api_Attribute) : Prop where
  g : ∀ (i : Nat) a, db[i]? = some a → 0 ≤ a.Perms ∧ a.Perms ≤ 15 ∧ a.Value.length ≤ 512 ∧ wrg db i (plc (db.take i)) a = false
theorem rcheck_all (F : Nat) (db : List T_api_Attribute) (hdb : ∀ a ∈ db, AOk a) (hn : db.length ≤ 9000000000000000) (hF : db.length + 20 < F) (h : wirelessref43_Check F db = some 0) : Good db := by
  unfold wirelessref43_Check at h
  by_cases hl : len db > 1000
  · rw [if_pos (dt hl)] at h; cases h
  · rw [if_neg (df hl)] at h
    obtain ⟨o, h1, h2⟩ := iter_by (body := fun s : Int × Int => wirelessref43_Check_l1 F db s.1 s.2)
      (fun s => ∃ i : Nat, s.2 = (i : Int) ∧ i ≤ db.length ∧ ∀ j a, j < i → db[j]? = some a → 0 ≤ a.Perms ∧ a.Perms ≤ 15 ∧ a.Value.length ≤ 512 ∧ wrg db j (plc (db.take j)) a = false)
      (fun o => (∀ e, o = .inr e → e ≠ 0) ∧ (o = .inl () → Good db)) (fun s => db.length - s.2.toNat) (by
      rintro ⟨last, x⟩ ⟨i, hx, hi, hp⟩
      simp only at hx
      subst hx
      show (∃ s', wirelessref43_Check_l1 F db last (i : Int) = some (.next s') ∧ _) ∨ ∃ o, wirelessref43_Check_l1 F db last (i : Int) = some (.done o) ∧ _
      unfold wirelessref43_Check_l1
      by_cases hin : i < db.length
      · have hxa : db[i]? = some db[i] := List.getElem?_eq_getElem hin
        have ha := hdb _ (List.getElem_mem hin)
        generalize hq : db[i] = a at hxa ha
        rw [if_pos (dt (show (i : Int) < len db by rw [len_nat]; omega)), idx_nat, hxa]
        simp only [Option.bind_some]
        by_cases h1 : a.Handle ≤ last
        · rw [if_pos (dt h1)]
          exact .inr ⟨_, rfl, (fun e h => by injection h with h; subst h; decide), fun h => by cases h⟩
        · rw [if_neg (df h1)]
          have hp2 : ((if decide (a.Perms < 0) = true then some true else some (decide (a.Perms > 15))) : Option Bool) = some (decide (a.Perms < 0) || decide (a.Perms > 15)) := by
            cases decide (a.Perms < 0) <;> rfl
          rw [hp2, Option.bind_some]
          by_cases h2 : (decide (a.Perms < 0) || decide (a.Perms > 15)) = true
          · rw [if_pos h2]
            exact .inr ⟨_, rfl, (fun e h => by injection h with h; subst h; decide), fun h => by cases h⟩
          · rw [if_neg h2]
            by_cases h3 : len a.Value > 512
            · rw [if_pos (dt h3)]
              exact .inr ⟨_, rfl, (fun e h => by injection h with h; subst h; decide), fun h => by cases h⟩
            · rw [if_neg (df h3), rwrong F hxa hn ha hF, Option.bind_some]
              by_cases h4 : wrg db i (plc (db.take i)) a = true
              · rw [if_pos h4]
                exact .inr ⟨_, rfl, (fun e h => by injection h with h; subst h; decide), fun h => by cases h⟩
              · rw [if_neg h4]
                rw [len_nat] at h3
                simp only [Bool.or_eq_true, decide_eq_true_eq] at h2
                refine .inl ⟨_, rfl, ⟨i + 1, by simp only; exact w64_nat i (by omega), by omega, ?_⟩, by simp only; rw [w64_nat i (by omega)]; omega⟩
                intro j c hj hc
                by_cases hji : j < i
                · exact hp j c hji hc
                · have : j = i := by omega
                  subst this
                  rw [hxa] at hc
                  injection hc with hc
                  subst hc
                  exact ⟨by omega, by omega, by omega, (Bool.not_eq_true _).mp h4⟩
      · rw [if_neg (df (show ¬ (i : Int) < len db by rw [len_nat]; omega))]
        refine .inr ⟨_, rfl, (fun e h => by cases h), fun _ => ⟨fun j c hc => hp j c ?_ hc⟩⟩
        have := (List.getElem?_eq_some_iff.1 hc).1
        omega) F (0, 0) ⟨0, rfl, by omega, by intro j a hj; omega⟩ (by simp only; omega)
    rw [h1, Option.bind_some] at h
    cases o with
    | inl u => exact h2.2 rfl
    | inr e =>
      simp only [Option.some.injEq] at h
      exact absurd h (h2.1 e rfl)
theorem char_prt {db : List T_api_Attribute} (hg : Good db) {a : T_api_Attribute} (ha : a ∈ db) (hc : isN a.f_Type 10243 = true) : (prt a.Value).2.2.2 = true := by
  obtain ⟨i, hi⟩ := List.getElem?_of_mem ha
  obtain ⟨_, _, _, h⟩ := hg.g i a hi
  unfold wrg at h
  rw [(char_not hc).1, hc] at h
  by_cases h1 : (((i : Int) == 0 && !false) || (decl a.f_Type && (iand .i64 a.Perms 2 != 0))) = true
  · rw [if_pos h1] at h; cases h
  · rw [if_neg h1, if_neg (by decide), if_pos rfl] at h
    unfold cw at h
    cases hn : db[i + 1]? with
    | none => rw [hn] at h; cases h
    | some b =>
      rw [hn] at h
      simp only [Bool.or_eq_false_iff, Bool.not_eq_false'] at h
      exact h.1.1
theorem rfound (F : Nat) (db : List T_api_Attribute) (hdb : ∀ a ∈ db, AOk a) (hg : Good db) (hn : db.length ≤ 100000) (hF : db.length + 20 < F) : wirelessref43_Found F db = some (db.foldl (fdd (grp db)) ([], false)).1 := by
  unfold wirelessref43_Found
  have := iter_fold2 (body := fun s : List T_api_Found × Int => wirelessref43_Found_l1 F db s.1 s.2) db (fdd (grp db)) (fun b i => (b.1, (i : Int))) (fun b => b.1) (fun i b => b.1.length ≤ i ∧ b.2 = pcAt db i) (by
    rintro i a ⟨l, pc⟩ hx ⟨hl, hpc⟩
    simp only at hl hpc
    have hi := (List.getElem?_eq_some_iff.1 hx).1
    have ha := hdb a (List.mem_of_getElem? hx)
    refine ⟨?_, ?_, ?_⟩
    · show wirelessref43_Found_l1 F db l (i : Int) = some (.next ((if pc = true then l else l ++ [ent (grp db) a]), ((i + 1 : Nat) : Int)))
      unfold wirelessref43_Found_l1
      rw [if_pos (dt (show (i : Int) < len db by rw [len_nat]; omega)), idx_nat, hx, Option.bind_some]
      have hz : (if decide ((i : Int) > 0) = true then (idx db (w64 ((i : Int) - 1))).bind fun x_18 => (wirelessref43_IsChar F x_18).bind fun x_19 => some x_19 else some false) = some pc := by
        cases i with
        | zero => rw [hpc]; rfl
        | succ k =>
          have hxk : db[k]? = some db[k] := List.getElem?_eq_getElem (by omega)
          generalize db[k] = b at hxk
          rw [if_pos (dt (by omega)), w64_id (by omega) (by omega), show ((k + 1 : Nat) : Int) - 1 = (k : Int) from by omega, idx_nat, hxk, Option.bind_some, rIsChar, Option.bind_some, hpc, pcAt_succ hxk]
      rw [hz, Option.bind_some]
      cases pc with
      | true =>
        rw [if_pos rfl, if_pos rfl]
        unfold wirelessref43_Found_j2
        rw [w64_nat i (by omega)]
      | false =>
        rw [if_neg (by decide), if_neg (by decide), rIsService, Option.bind_some]
        unfold ent
        by_cases hs : isv a.f_Type = true
        · rw [if_pos hs, if_pos hs, rdecode F ha.b (by omega), Option.bind_some, rgroup F db hdb _ (by omega) (by omega), Option.bind_some, app_small (by simp; omega) (by omega), Option.bind_some]
          unfold wirelessref43_Found_j2
          rw [w64_nat i (by omega)]
        · rw [if_neg hs, if_neg hs, rIsChar, Option.bind_some]
          by_cases hc : isN a.f_Type 10243 = true
          · have hp := char_prt hg (List.mem_of_getElem? hx) hc
            unfold dsc
            rw [if_pos hc, if_pos hc, rparts F ha.b (by omega), Option.bind_some, app_small (by simp; omega) (by omega), Option.bind_some, if_pos hp]
            unfold wirelessref43_Found_j2
            rw [w64_nat i (by omega)]
          · rw [if_neg hc, if_neg hc, app_small (by simp; omega) (by omega), Option.bind_some]
            unfold wirelessref43_Found_j2
            rw [w64_nat i (by omega)]
    · show (if pc = true then l else l ++ [ent (grp db) a]).length ≤ i + 1
      by_cases h : pc = true
      · rw [if_pos h]; omega
      · rw [if_neg h]; simp; omega
    · show isN a.f_Type 10243 = pcAt db (i + 1)
      rw [pcAt_succ hx]) (by
    intro b _
    show wirelessref43_Found_l1 F db b.1 (db.length : Int) = _
    unfold wirelessref43_Found_l1
    rw [if_neg (df (by rw [len_nat]; omega))]) F 0 ([], false) (by omega) ⟨by simp, rfl⟩ (by omega)
  rw [List.drop_zero] at this
  rw [show (([], 0) : List T_api_Found × Int) = ((([] : List T_api_Found), false).1, ((0 : Nat) : Int)) from rfl, this, Option.bind_some]
  rfl
theorem sameFound (F : Nat) (l : List T_api_Found) (hn : l.length ≤ 9000000000000000) (hF : l.length < F) : wirelessref43_SameFound F l l = some true := by
  unfold wirelessref43_SameFound
  rw [if_neg (by simp)]
  have := iter_count (body := fun s : Int => wirelessref43_SameFound_l1 F l l s) (fun i => (i : Int)) l.length (.inl ()) (by
    intro i hi
    have hx : l[i]? = some l[i] := List.getElem?_eq_getElem hi
    show wirelessref43_SameFound_l1 F l l (i : Int) = _
    unfold wirelessref43_SameFound_l1
    rw [if_pos (dt (by rw [len_nat]; omega)), idx_nat, hx, Option.bind_some, Option.bind_some]
    unfold wirelessref43_SameFound_j2
    rw [if_neg (by simp), w64_nat i (by omega)]) (by
    show wirelessref43_SameFound_l1 F l l (l.length : Int) = _
    unfold wirelessref43_SameFound_l1
    rw [if_neg (df (by rw [len_nat]; omega))]) F 0 (by omega) (by omega)
  rw [show ((0 : Nat) : Int) = 0 from rfl] at this
  rw [this]
  rfl
end V
end Go.Proofs.Ytchlimkophmjlaa
