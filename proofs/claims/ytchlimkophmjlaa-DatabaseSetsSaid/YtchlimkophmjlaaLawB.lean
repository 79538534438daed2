/-
  Check of the program is Check of the reference.
-/
import Derived.Test.YtchlimkophmjlaaLawA
namespace Go.Proofs.Ytchlimkophmjlaa
namespace V
theorem dt {p : Prop} [Decidable p] (h : p) : decide p = true := decide_eq_true h
/-- Two loops that go side by side. -/
theorem iter_sim {S1 S2 O1 O2 : Type} {b1 : S1 → Option (Out S1 O1)} {b2 : S2 → Option (Out S2 O2)} (R : S1 → S2 → Prop) (Q : O1 → O2 → Prop) (m : S1 → Nat)
    (h : ∀ s1 s2, R s1 s2 → (∃ t1 t2, b1 s1 = some (.next t1) ∧ b2 s2 = some (.next t2) ∧ R t1 t2 ∧ m t1 < m s1) ∨ ∃ o1 o2, b1 s1 = some (.done o1) ∧ b2 s2 = some (.done o2) ∧ Q o1 o2) :
    ∀ (F : Nat) (s1 : S1) (s2 : S2), R s1 s2 → m s1 < F → ∃ o1 o2, iter b1 F s1 = some o1 ∧ iter b2 F s2 = some o2 ∧ Q o1 o2
  | 0, _, _, _, hF => by omega
  | F + 1, s1, s2, hR, hF => by
    rcases h s1 s2 hR with ⟨t1, t2, h1, h2, hR', hm⟩ | ⟨o1, o2, h1, h2, hq⟩
    · obtain ⟨o1, o2, h3, h4, hq⟩ := iter_sim R Q m h F t1 t2 hR' (by omega)
      exact ⟨o1, o2, by rw [iter_step h1, h3], by rw [iter_step h2, h4], hq⟩
    · exact ⟨o1, o2, iter_stop h1, iter_stop h2, hq⟩
structure AOk (a : T_api_Attribute) : Prop where
  h0 : 0 ≤ a.Handle
  h1 : a.Handle < 65536
  u : UOk a.f_Type
  b : ∀ x ∈ a.Value, Byte x
  l : a.Value.length ≤ 140737488355328
/-- The parts of a characteristic's declaration. -/
def prt (b : List Int) : Int × Int × T_api_UUID × Bool :=
  if b.length < 3 then (0, 0, UZ, false)
  else (num (b.take 1), num ((b.drop 1).take 2), (decU (b.drop 3)).1, (decU (b.drop 3)).2 == 0)
theorem sub_drop {α : Type} (l : List α) (k : Nat) (h : k ≤ l.length) : sub l (k : Int) (len l) = some (l.drop k) := by
  rw [len_nat, sub_nat l k l.length h (by omega), List.take_length]
theorem rparts (F : Nat) {b : List Int} (hb : ∀ x ∈ b, Byte x) (hF : 20 < F) : wirelessref43_CharParts F b = some (prt b) := by
  unfold wirelessref43_CharParts prt
  by_cases h3 : b.length < 3
  · rw [if_pos (dt (show len b < 3 by rw [len_nat]; omega)), if_pos h3]; rfl
  · rw [if_neg (df (show ¬ len b < 3 by rw [len_nat]; omega)), if_neg h3]
    have hs := sub_drop b 3 (by omega)
    rw [show ((3 : Nat) : Int) = 3 from rfl] at hs
    rw [hs, Option.bind_some, rdecode F (fun x hx => hb x (List.mem_of_mem_drop hx)) hF, Option.bind_some]
    match b, h3, hb with
    | x :: y :: z :: r, _, hb =>
      obtain ⟨x0, x1⟩ := hb x (by simp)
      obtain ⟨y0, y1⟩ := hb y (by simp)
      obtain ⟨z0, z1⟩ := hb z (by simp)
      have h := rnum_ok F (x :: y :: z :: r) [y, z] 1 (by simp; omega) (fun w hw => hb w (by simp at hw ⊢; rcases hw with rfl | rfl <;> simp)) (by simp) (by omega) (by
        intro i hi
        match i, hi with
        | 0, _ => rfl
        | 1, _ => rfl)
      have h' : wirelessref23_Num F (x :: y :: z :: r) 1 2 = some (num [y, z]) := h
      rw [show idx (x :: y :: z :: r) 0 = some x from rfl, Option.bind_some, h', Option.bind_some, num2, wu16_id (by omega) (by omega), w64_id (by omega) (by omega)]
      unfold wirelessref43_CharParts_j1
      simp [num]
theorem udescribed (F : Nat) {b : List Int} (hb : ∀ x ∈ b, Byte x) (hF : 20 < F) : database_described F b = some (if (prt b).2.2.2 = true then prt b else (0, 0, UZ, false)) := by
  unfold database_described prt
  by_cases h3 : b.length < 3
  · rw [if_pos (dt (show len b < 3 by rw [len_nat]; omega)), if_pos h3]; rfl
  · rw [if_neg (df (show ¬ len b < 3 by rw [len_nat]; omega)), if_neg h3]
    have hs := sub_drop b 3 (by omega)
    rw [show ((3 : Nat) : Int) = 3 from rfl] at hs
    rw [hs, Option.bind_some, udecode F (fun x hx => hb x (List.mem_of_mem_drop hx)) hF, Option.bind_some]
    by_cases he : (decU (b.drop 3)).2 = 0
    · rw [if_neg (by simp [he]), if_pos (show ((decU (b.drop 3)).2 == 0) = true by simpa using he)]
      match b, h3, hb with
      | x :: y :: z :: r, _, hb =>
        have hx := hb x (by simp)
        have hy := hb y (by simp)
        have hz := hb z (by simp)
        obtain ⟨x0, x1⟩ := hx
        rw [show idx (x :: y :: z :: r) 0 = some x from rfl, show idx (x :: y :: z :: r) 1 = some y from rfl, show idx (x :: y :: z :: r) 2 = some z from rfl, Option.bind_some, Option.bind_some, Option.bind_some, word16 hy hz, w64_id (by omega) (by omega)]
        unfold database_described_j1
        simp only [List.drop_succ_cons, List.drop_zero] at he ⊢
        rw [he]
        simp [num]
    · rw [if_pos (by simp [he]), if_neg (show ¬ ((decU (b.drop 3)).2 == 0) = true by simpa using he)]; rfl
/-- Is a characteristic's declaration wrong? -/
def cw (db : List T_api_Attribute) (i : Nat) (a : T_api_Attribute) : Bool := match db[i + 1]? with
  | none => true
  | some b => (!(prt a.Value).2.2.2 || resv (prt a.Value).2.2.1) || (b.Handle != (prt a.Value).2.1 || !(b.f_Type.High == (prt a.Value).2.2.1.High && b.f_Type.Low == (prt a.Value).2.2.1.Low))
def wrg (db : List T_api_Attribute) (i : Nat) (p : T_database_place) (a : T_api_Attribute) : Bool :=
  if (((i : Int) == 0 && !isv a.f_Type) || (decl a.f_Type && (iand .i64 a.Perms 2 != 0))) = true then true
  else if isv a.f_Type = true then (decU a.Value).2 != 0
  else if isN a.f_Type 10243 = true then cw db i a
  else if isN a.f_Type 10498 = true then ((len a.Value != 2 || !p.char) || p.config)
  else false
theorem prt_ok {b : List Int} (hb : ∀ x ∈ b, Byte x) : UOk (prt b).2.2.1 := by
  unfold prt
  split
  · exact ⟨by decide, by decide, by decide, by decide⟩
  · exact decU_ok fun x hx => hb x (List.mem_of_mem_drop hx)
theorem uwrong (F : Nat) {db : List T_api_Attribute} {i : Nat} {a : T_api_Attribute} (p : T_database_place) (hi : db[i]? = some a) (hn : db.length ≤ 9000000000000000) (ha : AOk a) (hF : 20 < F) : database_wrong F db i p = some (wrg db i p a) := by
  have hil := (List.getElem?_eq_some_iff.1 hi).1
  unfold database_wrong wrg
  rw [idx_nat, hi, Option.bind_some, service_ok F ha.u (by omega), declaration_ok F ha.u (by omega)]
  have hj : ∀ z : Bool, database_wrong_j1 F db i p a z = some (if z = true then true else if isv a.f_Type = true then (decU a.Value).2 != 0 else if isN a.f_Type 10243 = true then cw db i a else if isN a.f_Type 10498 = true then ((len a.Value != 2 || !p.char) || p.config) else false) := by
    intro z
    unfold database_wrong_j1
    cases z with
    | true => rfl
    | false =>
      rw [if_neg (by decide), if_neg (by decide), service_ok F ha.u (by omega), Option.bind_some]
      by_cases hs : isv a.f_Type = true
      · rw [if_pos hs, if_pos hs, udecode F ha.b hF, Option.bind_some]
      · rw [if_neg hs, if_neg hs, is1 F ha.u 10243 (by omega) (by decide) (by decide), Option.bind_some]
        by_cases hc : isN a.f_Type 10243 = true
        · rw [if_pos hc, if_pos hc, udescribed F ha.b hF, Option.bind_some]
          unfold cw
          have hw : w64 ((i : Int) + 1) = ((i + 1 : Nat) : Int) := w64_nat i (by omega)
          by_cases ho : (prt a.Value).2.2.2 = true
          · rw [if_pos ho, if_neg (by rw [ho]; decide), reserved_ok F (prt_ok ha.b) (by omega), Option.bind_some, hw, ho]
            by_cases hl : i + 1 < db.length
            · rw [List.getElem?_eq_getElem hl, idx_nat, List.getElem?_eq_getElem hl]
              simp only [Option.bind_some]
              by_cases hr : resv (prt a.Value).2.2.1 = true
              · rw [if_pos (by rw [hr]; rfl), hr]; rfl
              · rw [if_neg (by rw [(Bool.not_eq_true _).mp hr, Bool.false_or]; exact df (by rw [len_nat]; omega)), (Bool.not_eq_true _).mp hr]
                by_cases hh : (db[i + 1].Handle != (prt a.Value).2.1) = true
                · rw [if_pos hh, hh]; rfl
                · rw [if_neg hh, (Bool.not_eq_true _).mp hh]; rfl
            · rw [List.getElem?_eq_none (by omega), if_pos (by
                rw [Bool.or_eq_true]
                exact .inr (dt (by rw [len_nat]; omega)))]
              rfl
          · rw [if_neg ho, if_pos (by rfl), if_pos (by rfl), (Bool.not_eq_true _).mp ho]
            cases db[i + 1]? <;> rfl
        · rw [if_neg hc, if_neg hc, is1 F ha.u 10498 (by omega) (by decide) (by decide), Option.bind_some]
          by_cases hg : isN a.f_Type 10498 = true
          · rw [if_pos hg, if_pos hg]
          · rw [if_neg hg, if_neg hg]
  by_cases h0 : ((i : Int) == 0) = true
  · rw [if_pos h0, Option.bind_some, Option.bind_some, h0, Bool.true_and]
    by_cases hs : isv a.f_Type = true
    · rw [hs]
      simp only [Bool.not_true, Bool.false_eq_true, if_false, Option.bind_some, Bool.false_or]
      rw [hj, hs]
      simp
    · rw [(Bool.not_eq_true _).mp hs]
      simp only [Bool.not_false, if_true, Bool.true_or]
      rw [hj]
      rfl
  · rw [if_neg h0, Option.bind_some, if_neg (by decide), Option.bind_some, (Bool.not_eq_true _).mp h0, Bool.false_and, Bool.false_or, hj]

/-! ### Where an attribute stands -/
def stepP (p : T_database_place) (u : T_api_UUID) : T_database_place :=
  if isv u = true then T_database_place.mk false false
  else if isN u 10243 = true then T_database_place.mk true false
  else if isN u 10498 = true then { p with config := true }
  else p
def plc (l : List T_api_Attribute) : T_database_place := l.foldl (fun p a => stepP p a.f_Type) (T_database_place.mk false false)
theorem plc_snoc (l : List T_api_Attribute) (a : T_api_Attribute) : plc (l ++ [a]) = stepP (plc l) a.f_Type := by simp [plc]
def cho (db : List T_api_Attribute) : Nat → Int
  | 0 => -1
  | k + 1 => match db[k]? with
    | none => -1
    | some a => if isN a.f_Type 10243 = true then (k : Int) else if isv a.f_Type = true then -1 else cho db k
theorem isN_ne {u : T_api_UUID} {m n : Int} (h : isN u m = true) (hn : m ≠ n) : isN u n = false := by
  rw [isN_eq h, isN_sh]
  exact beq_false_of_ne hn
theorem char_not {u : T_api_UUID} (h : isN u 10243 = true) : isv u = false ∧ isN u 10498 = false := by
  unfold isv
  rw [isN_ne h (by decide), isN_ne h (by decide), isN_ne h (by decide)]
  exact ⟨rfl, rfl⟩
theorem conf_not {u : T_api_UUID} (h : isN u 10498 = true) : isv u = false ∧ isN u 10243 = false := by
  unfold isv
  rw [isN_ne h (by decide), isN_ne h (by decide), isN_ne h (by decide)]
  exact ⟨rfl, rfl⟩
theorem cho_plc (db : List T_api_Attribute) : ∀ k, k ≤ db.length → (cho db k = -1 ∧ (plc (db.take k)).char = false) ∨ ∃ c : Nat, c < k ∧ cho db k = c ∧ (plc (db.take k)).char = true ∧ ((db.take k).drop c).any (fun a => isN a.f_Type 10498) = (plc (db.take k)).config
  | 0, _ => .inl ⟨rfl, rfl⟩
  | k + 1, hk => by
    have hx : db[k]? = some db[k] := List.getElem?_eq_getElem hk
    have ht : db.take (k + 1) = db.take k ++ [db[k]] := by rw [List.take_add_one, hx]; rfl
    have ih := cho_plc db k (by omega)
    have hl : (db.take k).length = k := by simp; omega
    rw [ht, plc_snoc]
    simp only [cho, hx]
    unfold stepP
    by_cases hc : isN db[k].f_Type 10243 = true
    · obtain ⟨h1, h2⟩ := char_not hc
      rw [if_pos hc, h1, if_neg (by decide), if_pos hc]
      refine .inr ⟨k, by omega, rfl, rfl, ?_⟩
      rw [List.drop_append_of_le_length (by omega), List.drop_of_length_le (by omega)]
      simp [h2]
    · rw [if_neg hc]
      by_cases hs : isv db[k].f_Type = true
      · rw [if_pos hs, if_pos hs]
        exact .inl ⟨rfl, rfl⟩
      · rw [if_neg hs, if_neg hs, if_neg hc]
        by_cases hg : isN db[k].f_Type 10498 = true
        · rw [if_pos hg]
          rcases ih with ⟨h1, h2⟩ | ⟨c, h0, h1, h2, h3⟩
          · exact .inl ⟨h1, h2⟩
          · refine .inr ⟨c, by omega, h1, h2, ?_⟩
            rw [List.drop_append_of_le_length (by omega), List.any_append]
            simp [hg]
        · rw [if_neg hg]
          rcases ih with ⟨h1, h2⟩ | ⟨c, h0, h1, h2, h3⟩
          · exact .inl ⟨h1, h2⟩
          · refine .inr ⟨c, by omega, h1, h2, ?_⟩
            rw [List.drop_append_of_le_length (by omega), List.any_append, h3]
            simp [(Bool.not_eq_true _).mp hg]
theorem rcharOf (F : Nat) (db : List T_api_Attribute) (i : Nat) (hi : i < db.length) (hF : i + 5 < F) (hn : db.length ≤ 9000000000000000) : wirelessref43_charOf F db i = some (cho db (i + 1)) := by
  have key : ∀ (k f : Nat), k ≤ db.length → k < f → ∃ o, iter (fun s => wirelessref43_charOf_l1 F db s) f ((k : Int) - 1) = some o ∧ (o = .inl () ∧ cho db k = -1 ∨ o = .inr (cho db k)) := by
    intro k
    induction k with
    | zero =>
      intro f _ hf
      obtain ⟨f, rfl⟩ : ∃ g, f = g + 1 := ⟨f - 1, by omega⟩
      exact ⟨.inl (), iter_stop (by
        unfold wirelessref43_charOf_l1
        rw [if_neg (by simp)]), .inl ⟨rfl, rfl⟩⟩
    | succ k ih =>
      intro f hk hf
      obtain ⟨f, rfl⟩ : ∃ g, f = g + 1 := ⟨f - 1, by omega⟩
      have hx : db[k]? = some db[k] := List.getElem?_eq_getElem hk
      have e : ((k + 1 : Nat) : Int) - 1 = (k : Int) := by omega
      rw [e]
      have hb : wirelessref43_charOf_l1 F db (k : Int) = (if isN db[k].f_Type 10243 = true then some (.done (.inr (k : Int))) else if isv db[k].f_Type = true then some (.done (.inr (-1))) else some (.next ((k : Int) - 1))) := by
        unfold wirelessref43_charOf_l1
        rw [if_pos (dt (by omega)), idx_nat, hx, Option.bind_some, rIsChar, Option.bind_some, Option.bind_some, rIsService, Option.bind_some, w64_id (by omega) (by omega)]
      have hcho : cho db (k + 1) = if isN db[k].f_Type 10243 = true then (k : Int) else if isv db[k].f_Type = true then -1 else cho db k := by
        simp only [cho, hx]
      by_cases hc : isN db[k].f_Type 10243 = true
      · rw [if_pos hc] at hb hcho
        exact ⟨_, iter_stop hb, .inr (by rw [hcho])⟩
      · rw [if_neg hc] at hb hcho
        by_cases hs : isv db[k].f_Type = true
        · rw [if_pos hs] at hb hcho
          exact ⟨_, iter_stop hb, .inr (by rw [hcho])⟩
        · rw [if_neg hs] at hb hcho
          obtain ⟨o, h1, h2⟩ := ih f (by omega) (by omega)
          exact ⟨o, by rw [iter_step hb, h1], by rw [hcho]; exact h2⟩
  unfold wirelessref43_charOf
  obtain ⟨o, h, h2⟩ := key (i + 1) F (by omega) (by omega)
  rw [show ((i + 1 : Nat) : Int) - 1 = (i : Int) from by omega] at h
  rw [h, Option.bind_some]
  rcases h2 with ⟨rfl, h2⟩ | rfl
  · rw [h2]; rfl
  · rfl
theorem rconfig (F : Nat) {db : List T_api_Attribute} {i : Nat} {a : T_api_Attribute} (hi : db[i]? = some a) (hg : isN a.f_Type 10498 = true) (hn : db.length ≤ 9000000000000000) (hF : db.length + 20 < F) : wirelessref43_configWrong F db i = some ((len a.Value != 2 || !(plc (db.take i)).char) || (plc (db.take i)).config) := by
  have hil := (List.getElem?_eq_some_iff.1 hi).1
  unfold wirelessref43_configWrong
  rw [rcharOf F db i hil (by omega) hn, Option.bind_some, idx_nat, hi, Option.bind_some]
  obtain ⟨h1, h2⟩ := conf_not hg
  have hc : cho db (i + 1) = cho db i := by
    simp only [cho, hi, h1, h2, Bool.false_eq_true, if_false]
  rw [hc]
  by_cases hl : (len a.Value != 2) = true
  · rw [hl, Bool.true_or, if_pos rfl]; rfl
  · rw [(Bool.not_eq_true _).mp hl, Bool.false_or, Bool.false_or]
    rcases cho_plc db i (by omega) with ⟨h3, h4⟩ | ⟨c, h0, h3, h4, h5⟩
    · rw [h3, h4, if_pos (by decide)]; rfl
    · rw [h3, h4, if_neg (df (by omega))]
      have := iter_any (body := fun s => wirelessref43_configWrong_l1 F db i s) (l := db.take i) (p := fun a => isN a.f_Type 10498) (o := Sum.inr true) (e := Sum.inl ()) (by
        intro k x hx
        have hkl := (List.getElem?_eq_some_iff.1 hx).1
        rw [List.length_take] at hkl
        rw [List.getElem?_take, if_pos (by omega)] at hx
        show wirelessref43_configWrong_l1 F db i (k : Int) = _
        unfold wirelessref43_configWrong_l1
        rw [if_pos (dt (by omega)), idx_nat, hx, Option.bind_some, rIs F _ _ (by decide) (by decide), Option.bind_some, w64_nat k (by omega)]
        split <;> rfl) (by
        rw [List.length_take, Nat.min_eq_left (by omega)]
        show wirelessref43_configWrong_l1 F db i (i : Int) = _
        unfold wirelessref43_configWrong_l1
        rw [if_neg (df (by omega))]) F c (by rw [List.length_take]; omega) (by rw [List.length_take]; omega)
      rw [this, h5, Option.bind_some]
      cases (plc (db.take i)).config <;> rfl
theorem rcharWrong (F : Nat) {db : List T_api_Attribute} {i : Nat} {a : T_api_Attribute} (hi : db[i]? = some a) (hn : db.length ≤ 9000000000000000) (ha : AOk a) (hF : 20 < F) : wirelessref43_charWrong F db i = some (cw db i a) := by
  have hil := (List.getElem?_eq_some_iff.1 hi).1
  unfold wirelessref43_charWrong cw
  rw [idx_nat, hi, Option.bind_some, rparts F ha.b hF, Option.bind_some, rkept]
  have hw : w64 ((i : Int) + 1) = ((i + 1 : Nat) : Int) := w64_nat i (by omega)
  have hz : ((if (!(prt a.Value).2.2.2) = true then some true else (some (resv (prt a.Value).2.2.1)).bind fun x_14 => some x_14) : Option Bool) = some (!(prt a.Value).2.2.2 || resv (prt a.Value).2.2.1) := by
    cases (prt a.Value).2.2.2 <;> rfl
  rw [hz, Option.bind_some, hw, idx_nat]
  by_cases hl : i + 1 < db.length
  · rw [List.getElem?_eq_getElem hl]
    simp only [Option.bind_some]
    by_cases hr : (!(prt a.Value).2.2.2 || resv (prt a.Value).2.2.1) = true
    · rw [hr, Bool.true_or, if_pos rfl, Bool.true_or]
    · rw [(Bool.not_eq_true _).mp hr, Bool.false_or, if_neg (df (by rw [len_nat]; omega)), Bool.false_or]
      by_cases hh : (db[i + 1].Handle != (prt a.Value).2.1) = true
      · rw [if_pos hh, hh]; rfl
      · rw [if_neg hh, (Bool.not_eq_true _).mp hh]; rfl
  · rw [List.getElem?_eq_none (by omega), if_pos (by
      rw [Bool.or_eq_true]
      exact .inr (dt (by rw [len_nat]; omega)))]
theorem rwrong (F : Nat) {db : List T_api_Attribute} {i : Nat} {a : T_api_Attribute} (hi : db[i]? = some a) (hn : db.length ≤ 9000000000000000) (ha : AOk a) (hF : db.length + 20 < F) : wirelessref43_wrong F db i = some (wrg db i (plc (db.take i)) a) := by
  unfold wirelessref43_wrong wrg
  rw [idx_nat, hi, Option.bind_some, rIsService, rdeclares]
  have hz : ((if ((i : Int) == 0) = true then (some (isv a.f_Type)).bind fun x_25 => some !x_25 else some false) : Option Bool) = some ((i : Int) == 0 && !isv a.f_Type) := by
    cases ((i : Int) == 0) <;> rfl
  rw [hz, Option.bind_some]
  have hz2 : ((if ((i : Int) == 0 && !isv a.f_Type) = true then some true else (some (decl a.f_Type)).bind fun x_22 => if x_22 = true then some (iand IntKind.i64 a.Perms 2 != 0) else some false) : Option Bool) = some (((i : Int) == 0 && !isv a.f_Type) || (decl a.f_Type && (iand .i64 a.Perms 2 != 0))) := by
    cases ((i : Int) == 0 && !isv a.f_Type) <;> cases decl a.f_Type <;> rfl
  rw [hz2, Option.bind_some]
  by_cases hq : (((i : Int) == 0 && !isv a.f_Type) || (decl a.f_Type && (iand .i64 a.Perms 2 != 0))) = true
  · rw [if_pos hq, if_pos hq]
  · rw [if_neg hq, if_neg hq, Option.bind_some]
    by_cases hs : isv a.f_Type = true
    · rw [if_pos hs, if_pos hs, rdecode F ha.b (by omega), Option.bind_some]
    · rw [if_neg hs, if_neg hs, rIsChar, Option.bind_some, rcharWrong F hi hn ha (by omega), rIs F _ _ (by decide) (by decide)]
      by_cases hc : isN a.f_Type 10243 = true
      · rw [if_pos hc, if_pos hc, Option.bind_some, Option.bind_some, (char_not hc).2]
        cases cw db i a <;> rfl
      · rw [if_neg hc, if_neg hc, Option.bind_some, if_neg (by decide), Option.bind_some]
        by_cases hg : isN a.f_Type 10498 = true
        · rw [if_pos hg, if_pos hg, rconfig F hi hg hn hF, Option.bind_some, Option.bind_some]
        · rw [if_neg hg, if_neg hg, Option.bind_some]

/-! ### Check -/
theorem check_same (F : Nat) (db : List T_api_Attribute) (hdb : ∀ a ∈ db, AOk a) (hn : db.length ≤ 9000000000000000) (hF : db.length + 20 < F) : ∃ e, database_Check F db = some e ∧ wirelessref43_Check F db = some e := by
  unfold database_Check wirelessref43_Check
  by_cases hl : len db > 1000
  · rw [if_pos (dt hl), if_pos (dt hl)]
    exact ⟨_, rfl, rfl⟩
  · rw [if_neg (df hl), if_neg (df hl)]
    obtain ⟨o1, o2, h1, h2, h3⟩ := iter_sim (b1 := fun s : Int × T_database_place × Int => database_Check_l1 F db s.1 s.2.1 s.2.2) (b2 := fun s : Int × Int => wirelessref43_Check_l1 F db s.1 s.2)
      (fun s t => ∃ i : Nat, i ≤ db.length ∧ s = (t.1, plc (db.take i), (i : Int)) ∧ t.2 = (i : Int)) (fun a b => a = b) (fun s => db.length - s.2.2.toNat) (by
      rintro s ⟨last, x⟩ ⟨i, hi, rfl, hx⟩
      simp only at hx
      subst hx
      show (∃ t1 t2, database_Check_l1 F db last (plc (db.take i)) (i : Int) = some (.next t1) ∧ wirelessref43_Check_l1 F db last (i : Int) = some (.next t2) ∧ _) ∨ ∃ o1 o2, database_Check_l1 F db last (plc (db.take i)) (i : Int) = some (.done o1) ∧ wirelessref43_Check_l1 F db last (i : Int) = some (.done o2) ∧ _
      unfold database_Check_l1 wirelessref43_Check_l1
      by_cases hin : i < db.length
      · have hxa : db[i]? = some db[i] := List.getElem?_eq_getElem hin
        have ha := hdb _ (List.getElem_mem hin)
        generalize hq : db[i] = a at hxa ha
        rw [if_pos (dt (show (i : Int) < len db by rw [len_nat]; omega)), if_pos (dt (show (i : Int) < len db by rw [len_nat]; omega)), idx_nat, hxa]
        simp only [Option.bind_some]
        by_cases h1 : a.Handle ≤ last
        · rw [if_pos (dt h1), if_pos (dt h1)]
          exact .inr ⟨_, _, rfl, rfl, rfl⟩
        · rw [if_neg (df h1), if_neg (df h1)]
          have hp : ((if decide (a.Perms < 0) = true then some true else some (decide (a.Perms > 15))) : Option Bool) = some (decide (a.Perms < 0) || decide (a.Perms > 15)) := by
            cases decide (a.Perms < 0) <;> rfl
          rw [hp, Option.bind_some]
          by_cases h2 : (decide (a.Perms < 0) || decide (a.Perms > 15)) = true
          · rw [if_pos h2, if_pos h2]
            exact .inr ⟨_, _, rfl, rfl, rfl⟩
          · rw [if_neg h2, if_neg h2]
            by_cases h3 : len a.Value > 512
            · rw [if_pos (dt h3), if_pos (dt h3)]
              exact .inr ⟨_, _, rfl, rfl, rfl⟩
            · rw [if_neg (df h3), if_neg (df h3), uwrong F _ hxa hn ha (by omega), rwrong F hxa hn ha hF, Option.bind_some, Option.bind_some]
              by_cases h4 : wrg db i (plc (db.take i)) a = true
              · rw [if_pos h4, if_pos h4]
                exact .inr ⟨_, _, rfl, rfl, rfl⟩
              · rw [if_neg h4, if_neg h4, service_ok F ha.u (by omega), is1 F ha.u 10243 (by omega) (by decide) (by decide), is1 F ha.u 10498 (by omega) (by decide) (by decide)]
                simp only [Option.bind_some]
                have ht : plc (db.take (i + 1)) = stepP (plc (db.take i)) a.f_Type := by
                  rw [List.take_add_one, hxa]
                  exact plc_snoc _ _
                have hw := w64_nat i (by omega)
                refine .inl ⟨(a.Handle, plc (db.take (i + 1)), ((i + 1 : Nat) : Int)), (a.Handle, ((i + 1 : Nat) : Int)), ?_, by rw [hw], ⟨i + 1, by omega, rfl, rfl⟩, by simp only; omega⟩
                rw [ht]
                unfold stepP database_Check_j2
                rw [hw]
                split
                · rfl
                · split
                  · rfl
                  · split <;> rfl
      · rw [if_neg (df (show ¬ (i : Int) < len db by rw [len_nat]; omega)), if_neg (df (show ¬ (i : Int) < len db by rw [len_nat]; omega))]
        exact .inr ⟨_, _, rfl, rfl, rfl⟩) F (0, T_database_place.mk false false, 0) (0, 0) ⟨0, by omega, rfl, rfl⟩ (by simp only; omega)
    rw [h1, h2, h3]
    simp only [Option.bind_some]
    cases o2 with
    | inl u => exact ⟨_, rfl, rfl⟩
    | inr e => exact ⟨_, rfl, rfl⟩
theorem light_ok (F : Nat) (db : List T_api_Attribute) (hdb : ∀ a ∈ db, AOk a) (hn : db.length ≤ 9000000000000000) (hF : db.length < F) : ∃ b, wirelesslaw43_light F db = some b ∧ (b = true → db.length ≤ 1100 ∧ ∀ a ∈ db, a.Value.length ≤ 8192) := by
  unfold wirelesslaw43_light
  obtain ⟨o, h1, h2⟩ := iter_by (body := fun s : Int × Int => wirelesslaw43_light_l1 F db s.1 s.2) (fun s => ∃ i : Nat, s.2 = (i : Int) ∧ i ≤ db.length ∧ i ≤ 1100 ∧ 0 ≤ s.1 ∧ s.1 ≤ 8192 * i ∧ ∀ a ∈ db.take i, a.Value.length ≤ 8192)
    (fun o => (∃ n, o = .inl n ∧ ∀ a ∈ db.take 1100, a.Value.length ≤ 8192) ∨ o = .inr false) (fun s => db.length - s.2.toNat) (by
    rintro ⟨n, x⟩ ⟨i, hx, hi, hi2, hn0, hn1, hall⟩
    simp only at hx hn0 hn1
    subst hx
    show (∃ s', wirelesslaw43_light_l1 F db n (i : Int) = some (.next s') ∧ _) ∨ ∃ o, wirelesslaw43_light_l1 F db n (i : Int) = some (.done o) ∧ _
    unfold wirelesslaw43_light_l1
    by_cases hin : i < db.length ∧ i < 1100
    · have hxa : db[i]? = some db[i] := List.getElem?_eq_getElem hin.1
      have ha := hdb _ (List.getElem_mem hin.1)
      generalize hq : db[i] = a at hxa ha
      rw [if_pos (by rw [dt (show (i : Int) < len db by rw [len_nat]; omega), dt (show (i : Int) < 1100 by omega)]; rfl), idx_nat, hxa]
      simp only [Option.bind_some]
      by_cases hv : len a.Value > 8192
      · rw [if_pos (dt hv)]
        exact .inr ⟨_, rfl, .inr rfl⟩
      · rw [if_neg (df hv)]
        rw [len_nat] at hv
        refine .inl ⟨_, rfl, ⟨i + 1, ?_, by omega, by omega, ?_, ?_, ?_⟩, ?_⟩
        · simp only; exact w64_nat i (by omega)
        · simp only; rw [len_nat, w64_id (by omega) (by omega)]; omega
        · simp only; rw [len_nat, w64_id (by omega) (by omega)]; omega
        · intro c hc
          rw [List.take_add_one, hxa] at hc
          rcases List.mem_append.1 hc with hc | hc
          · exact hall c hc
          · simp at hc; subst hc; omega
        · simp only; rw [w64_nat i (by omega)]; omega
    · rw [if_neg (by
        rw [Bool.and_eq_true]
        rintro ⟨h1, h2⟩
        have h1 := of_decide_eq_true h1
        have h2 := of_decide_eq_true h2
        rw [len_nat] at h1
        omega)]
      refine .inr ⟨_, rfl, .inl ⟨_, rfl, fun a ha => hall a ?_⟩⟩
      have e : db.take 1100 = db.take i := by
        by_cases h : i < db.length
        · rw [show i = 1100 from by omega]
        · rw [List.take_of_length_le (by omega), List.take_of_length_le (by omega)]
      rwa [e] at ha) F (0, 0) ⟨0, rfl, by omega, by omega, by simp, by simp, by simp⟩ (by simp only; omega)
  rw [h1, Option.bind_some]
  rcases h2 with ⟨n, rfl, h3⟩ | rfl
  · refine ⟨_, rfl, fun hb => ?_⟩
    simp only [Bool.and_eq_true] at hb
    have h4 := of_decide_eq_true hb.1
    rw [len_nat] at h4
    refine ⟨by omega, fun a ha => h3 a ?_⟩
    rwa [List.take_of_length_le (by omega)]
  · exact ⟨false, rfl, fun h => by cases h⟩
theorem example_ok : wirelesslaw43_exampleHolds FF = some true := by kernel_rfl
end V
end Go.Proofs.Ytchlimkophmjlaa
