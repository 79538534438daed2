/-
  Set: of the program, and of the reference; what does not turn with a value.
-/
import Derived.Test.YtchlimkophmjlaaLawO
namespace Go.Proofs.Ytchlimkophmjlaa
namespace V
theorem u_copy (F : Nat) (db : List T_api_Attribute) (hv : ∀ a ∈ db, a.Value.length ≤ 8192) (hn : db.length ≤ 1100) (hF : db.length + 5 < F) : iter (fun s : List T_api_Attribute × Int => database_Set_l1 F db s.1 s.2) F ([], 0) = some db := by
  have := iter_count (body := fun s : List T_api_Attribute × Int => database_Set_l1 F db s.1 s.2) (fun i => (db.take i, (i : Int))) db.length db (by
    intro i hi
    have hx : db[i]? = some db[i] := List.getElem?_eq_getElem hi
    have hva := hv _ (List.getElem_mem hi)
    generalize db[i] = a at hx hva
    show database_Set_l1 F db (db.take i) (i : Int) = _
    unfold database_Set_l1
    rw [if_pos (dt (show (i : Int) < len db by rw [len_nat]; omega)), idx_nat, hx, Option.bind_some, copied_ok F hva (by omega), Option.bind_some, app_small (by simp; omega) (by omega), Option.bind_some, w64_nat i (by omega), List.take_add_one, hx]
    rfl) (by
    show database_Set_l1 F db (db.take db.length) (db.length : Int) = _
    unfold database_Set_l1
    rw [if_neg (df (by rw [len_nat]; omega)), List.take_length]) F 0 (by omega) (by omega)
  exact this
def wv (a : T_api_Attribute) (v : List Int) : T_api_Attribute := T_api_Attribute.mk a.Handle a.f_Type a.Perms v
def sres (db : List T_api_Attribute) (h : Int) (v : List Int) : List T_api_Attribute × Int := match db.findIdx? (fun a => a.Handle == h) with
  | none => (db, 6)
  | some i => match db[i]? with
    | none => (db, 6)
    | some a => if resv a.f_Type = true then (db, 14) else if decide (len v > 512) = true then (db, 4) else (db.set i (wv a v), 0)
theorem upd_set {db : List T_api_Attribute} {i : Nat} {a : T_api_Attribute} (hx : db[i]? = some a) (b : T_api_Attribute) : upd db (i : Int) b = some (db.set i b) := by
  have := (List.getElem?_eq_some_iff.1 hx).1
  unfold upd
  rw [if_pos (by omega)]
  rfl
theorem uset (F : Nat) (db : List T_api_Attribute) (hdb : ∀ a ∈ db, AOk a) (hv : ∀ a ∈ db, a.Value.length ≤ 8192) (hn : db.length ≤ 1100) (h : Int) (v : List Int) (hvl : v.length ≤ 8192) (hF : 2000 < F) : database_Set F db h v = some (sres db h v) := by
  unfold database_Set
  rw [u_copy F db hv hn (by omega), Option.bind_some]
  unfold database_Set_j1
  rw [ufind F db h (by omega) (by omega), Option.bind_some]
  unfold fnd sres
  cases hk : db.findIdx? (fun a => a.Handle == h) with
  | none => rfl
  | some k =>
    obtain ⟨a, hx, _⟩ := find_some hk
    have ha := hdb a (List.mem_of_getElem? hx)
    simp only
    rw [if_neg (df (show ¬ (k : Int) < 0 by omega)), idx_nat, hx, Option.bind_some, reserved_ok F ha.u (by omega), Option.bind_some]
    simp only
    by_cases hr : resv a.f_Type = true
    · rw [if_pos hr, if_pos hr]
    · rw [if_neg hr, if_neg hr]
      by_cases hl : decide (len v > 512) = true
      · rw [if_pos hl, if_pos hl]
      · rw [if_neg hl, if_neg hl, join_one F v (by omega) (by omega), Option.bind_some, Option.bind_some, upd_set hx, Option.bind_some]
        rfl
theorem rset (F : Nat) (db : List T_api_Attribute) (hn : db.length ≤ 1100) (h : Int) (v : List Int) (hvl : v.length ≤ 8192) (hF : 2000 < F) : wirelessref43_Set F db h v = some (sres db h v) := by
  unfold wirelessref43_Set
  rw [rfind F db h (by omega) (by omega), Option.bind_some]
  unfold fnd sres
  cases hk : db.findIdx? (fun a => a.Handle == h) with
  | none => rfl
  | some k =>
    obtain ⟨a, hx, _⟩ := find_some hk
    simp only
    rw [if_neg (df (show ¬ (k : Int) < 0 by omega)), idx_nat, hx, Option.bind_some, rkept, Option.bind_some]
    simp only
    by_cases hr : resv a.f_Type = true
    · rw [if_pos hr, if_pos hr]
    · rw [if_neg hr, if_neg hr]
      by_cases hl : decide (len v > 512) = true
      · rw [if_pos hl, if_pos hl]
      · rw [if_neg hl, if_neg hl, app_small (by simp; omega) (by omega), Option.bind_some, app_cat (by simp; omega), Option.bind_some, List.nil_append, List.nil_append, idx_nat, hx, Option.bind_some, upd_set hx, Option.bind_some]
        rfl

/-! ### What does not turn -/
theorem resv_no {u : T_api_UUID} (h : resv u = false) : isv u = false ∧ decl u = false ∧ isN u 10243 = false ∧ isN u 10498 = false := by
  unfold resv at h
  rw [Bool.or_eq_false_iff] at h
  obtain ⟨h1, h2⟩ := h
  have h3 := h1
  unfold decl at h3
  rw [Bool.or_eq_false_iff, Bool.or_eq_false_iff] at h3
  exact ⟨h3.1, h1, h3.2.2, h2⟩
theorem map_set_same {α β : Type} {l : List α} {i : Nat} {a b : α} (f : α → β) (hx : l[i]? = some a) (hf : f b = f a) : (l.set i b).map f = l.map f := by
  refine List.ext_getElem? fun k => ?_
  rw [List.getElem?_map, List.getElem?_map]
  by_cases hk : i = k
  · subst hk
    rw [List.getElem?_set_self (List.getElem?_eq_some_iff.1 hx).1, hx]
    exact congrArg some hf
  · rw [List.getElem?_set_ne hk]
theorem plc_map (l : List T_api_Attribute) : plc l = (l.map (·.f_Type)).foldl stepP (T_database_place.mk false false) := by
  unfold plc
  rw [List.foldl_map]
def gk (l : List (Int × T_api_UUID)) (h : Int) : Int × Bool := match l.findIdx? (fun a => a.1 == h) with
  | none => (0, false)
  | some k => match l[k]? with
    | none => (0, false)
    | some a => if isv a.2 = true then ((match l[k + ((l.drop (k + 1)).takeWhile fun a => !isv a.2).length]? with
      | some a => a.1
      | none => 0), true) else (0, false)
theorem grp_map (db : List T_api_Attribute) (h : Int) : grp db h = gk (db.map fun a => (a.Handle, a.f_Type)) h := by
  unfold grp gk
  rw [List.findIdx?_map]
  show (match db.findIdx? (fun a => a.Handle == h) with
    | none => _
    | some k => _) = (match db.findIdx? ((fun a : Int × T_api_UUID => a.1 == h) ∘ fun a => (a.Handle, a.f_Type)) with
    | none => _
    | some k => _)
  have e : ((fun a : Int × T_api_UUID => a.1 == h) ∘ fun a : T_api_Attribute => (a.Handle, a.f_Type)) = fun a => a.Handle == h := rfl
  rw [e]
  cases db.findIdx? (fun a => a.Handle == h) with
  | none => rfl
  | some k =>
    simp only
    rw [List.getElem?_map]
    cases hx : db[k]? with
    | none => rfl
    | some a =>
      simp only [Option.map_some]
      have hr : ((List.map (fun a : T_api_Attribute => (a.Handle, a.f_Type)) db).drop (k + 1)).takeWhile (fun a => !isv a.2) = (((db.drop (k + 1)).takeWhile fun a => !isv a.f_Type).map fun a => (a.Handle, a.f_Type)) := by
        rw [← List.map_drop, List.takeWhile_map]
        rfl
      rw [hr, List.length_map, List.getElem?_map]
      unfold hnd lst run
      by_cases hs : isv a.f_Type = true
      · rw [if_pos hs, if_pos hs]
        cases db[k + ((db.drop (k + 1)).takeWhile fun a => !isv a.f_Type).length]? <;> rfl
      · rw [if_neg hs, if_neg hs]
section
variable {db : List T_api_Attribute} {i : Nat} {a : T_api_Attribute} {v : List Int}
theorem set_grp (hx : db[i]? = some a) : grp (db.set i (wv a v)) = grp db := by
  funext h
  rw [grp_map, grp_map, map_set_same (b := wv a v) _ hx rfl]
theorem set_found (hx : db[i]? = some a) (hr : resv a.f_Type = false) : ((db.set i (wv a v)).foldl (fdd (grp (db.set i (wv a v)))) ([], false)).1 = (db.foldl (fdd (grp db)) ([], false)).1 := by
  obtain ⟨h1, h2, h3, h4⟩ := resv_no hr
  rw [set_grp hx]
  have key : ∀ l : List T_api_Attribute, l.foldl (fdd (grp db)) ([], false) = (l.map fun a => (ent (grp db) a, isN a.f_Type 10243)).foldl (fun (b : List T_api_Found × Bool) c => (if b.2 = true then b.1 else b.1 ++ [c.1], c.2)) ([], false) := by
    intro l
    rw [List.foldl_map]
    rfl
  rw [key, key, map_set_same (b := wv a v) _ hx ?_]
  show (ent (grp db) (wv a v), isN a.f_Type 10243) = (ent (grp db) a, isN a.f_Type 10243)
  congr 1
  unfold ent
  show (if isv a.f_Type = true then _ else if isN a.f_Type 10243 = true then _ else _) = _
  rw [h1, h3]
  rfl
theorem set_hash (hx : db[i]? = some a) (hr : resv a.f_Type = false) : hbs (db.set i (wv a v)) = hbs db := by
  obtain ⟨h1, h2, h3, h4⟩ := resv_no hr
  have key : ∀ l : List T_api_Attribute, hbs l = (l.map hat).foldl (fun b c => b ++ c) [] := by
    intro l
    unfold hbs
    rw [List.foldl_map]
  rw [key, key, map_set_same (b := wv a v) _ hx ?_]
  unfold hat
  show (leb 2 a.Handle ++ leb 8 a.f_Type.Low ++ leb 8 a.f_Type.High) ++ (if decl a.f_Type = true then _ else []) = _
  rw [h2]
  rfl
theorem set_at {j : Nat} {c : T_api_Attribute} (hx : db[i]? = some a) (hc : (db.set i (wv a v))[j]? = some c) : ∃ d, db[j]? = some d ∧ c.Handle = d.Handle ∧ c.f_Type = d.f_Type ∧ c.Perms = d.Perms ∧ ((j ≠ i ∧ c = d) ∨ (j = i ∧ d = a ∧ c = wv a v)) := by
  by_cases hk : i = j
  · subst hk
    rw [List.getElem?_set_self (List.getElem?_eq_some_iff.1 hx).1] at hc
    injection hc with hc
    subst hc
    exact ⟨a, hx, rfl, rfl, rfl, .inr ⟨rfl, rfl, rfl⟩⟩
  · rw [List.getElem?_set_ne hk] at hc
    exact ⟨c, hc, rfl, rfl, rfl, .inl ⟨fun e => hk e.symm, rfl⟩⟩
theorem set_wrg (hx : db[i]? = some a) (hr : resv a.f_Type = false) {j : Nat} {c d : T_api_Attribute} {p : T_database_place} (hd : db[j]? = some d) (hc : (db.set i (wv a v))[j]? = some c) (hw : wrg db j p d = false) : wrg (db.set i (wv a v)) j p c = false := by
  obtain ⟨h1, h2, h3, h4⟩ := resv_no hr
  obtain ⟨d', hd', e1, e2, e3, h⟩ := set_at hx hc
  rw [hd] at hd'
  injection hd' with hd'
  subst hd'
  rcases h with ⟨hj, rfl⟩ | ⟨rfl, rfl, rfl⟩
  · unfold wrg at hw ⊢
    have hcw : cw (db.set i (wv a v)) j c = cw db j c := by
      unfold cw
      by_cases hk : i = j + 1
      · subst hk
        rw [List.getElem?_set_self (List.getElem?_eq_some_iff.1 hx).1, hx]
        rfl
      · rw [List.getElem?_set_ne hk]
    rw [hcw]
    exact hw
  · unfold wrg at hw ⊢
    rw [h1, h3, h4] at hw
    show (if (((j : Int) == 0 && !isv d.f_Type) || (decl d.f_Type && (iand .i64 d.Perms 2 != 0))) = true then true else if isv d.f_Type = true then _ else if isN d.f_Type 10243 = true then _ else if isN d.f_Type 10498 = true then _ else false) = false
    rw [h1, h3, h4]
    by_cases hq : (((j : Int) == 0 && !false) || (decl d.f_Type && (iand .i64 d.Perms 2 != 0))) = true
    · rw [if_pos hq] at hw; cases hw
    · rw [if_neg hq]; rfl
theorem set_good (hg : Good db) (hx : db[i]? = some a) (hr : resv a.f_Type = false) (hv : v.length ≤ 512) : Good (db.set i (wv a v)) := by
  refine ⟨fun j c hc => ?_⟩
  obtain ⟨d, hd, e1, e2, e3, h⟩ := set_at hx hc
  obtain ⟨g1, g2, g3, g4⟩ := hg.g j d hd
  refine ⟨by rw [e3]; exact g1, by rw [e3]; exact g2, ?_, ?_⟩
  · rcases h with ⟨_, rfl⟩ | ⟨_, _, rfl⟩
    · exact g3
    · exact hv
  · have hp : plc ((db.set i (wv a v)).take j) = plc (db.take j) := by
      rw [plc_map, plc_map, List.map_take, List.map_take, map_set_same (b := wv a v) _ hx rfl]
    rw [hp]
    exact set_wrg hx hr hd hc g4
end
/-- Handles that ascend from above 0. -/
structure Hup (db : List T_api_Attribute) : Prop where
  s : ∀ (i : Nat) a b, db[i]? = some a → db[i + 1]? = some b → a.Handle < b.Handle
  p : ∀ a ∈ db, 0 < a.Handle
theorem ucheck1 (F : Nat) (db : List T_api_Attribute) (hdb : ∀ a ∈ db, AOk a) (hg : Good db) (hu : Hup db) (hl : db.length ≤ 1000) (hF : 2000 < F) : database_Check F db = some 0 := by
  unfold database_Check
  rw [if_neg (df (show ¬ len db > 1000 by rw [len_nat]; omega))]
  have := iter_count (body := fun s : Int × T_database_place × Int => database_Check_l1 F db s.1 s.2.1 s.2.2) (fun i => ((if i = 0 then 0 else hnd db (i - 1)), plc (db.take i), (i : Int))) db.length (.inl ()) (by
    intro i hi
    have hxa : db[i]? = some db[i] := List.getElem?_eq_getElem hi
    have ha := hdb _ (List.getElem_mem hi)
    generalize db[i] = a at hxa ha
    obtain ⟨ha1, ha2, ha3, hw⟩ := hg.g i a hxa
    show database_Check_l1 F db (if i = 0 then 0 else hnd db (i - 1)) (plc (db.take i)) (i : Int) = _
    unfold database_Check_l1
    rw [if_pos (dt (show (i : Int) < len db by rw [len_nat]; omega)), idx_nat, hxa, Option.bind_some, if_neg (df (by
      by_cases h : i = 0
      · rw [if_pos h]
        have := hu.p a (List.mem_of_getElem? hxa)
        omega
      · rw [if_neg h]
        have hx2 : db[i - 1]? = some db[i - 1] := List.getElem?_eq_getElem (by omega)
        generalize db[i - 1] = b at hx2
        have := hu.s (i - 1) b a hx2 (by rw [show i - 1 + 1 = i from by omega]; exact hxa)
        unfold hnd
        rw [hx2]
        simp only
        omega)), if_neg (by rw [decide_eq_false (show ¬ a.Perms < 0 by omega), decide_eq_false (show ¬ a.Perms > 15 by omega)]; decide), if_neg (df (show ¬ len a.Value > 512 by rw [len_nat]; omega)), uwrong F _ hxa (by omega) ha (by omega), Option.bind_some, hw, if_neg (by decide), service_ok F ha.u (by omega), Option.bind_some, is1 F ha.u 10243 (by omega) (by decide) (by decide), is1 F ha.u 10498 (by omega) (by decide) (by decide), Option.bind_some, Option.bind_some]
    have ht : plc (db.take (i + 1)) = stepP (plc (db.take i)) a.f_Type := by
      rw [List.take_add_one, hxa]
      exact plc_snoc _ _
    have hh : hnd db (i + 1 - 1) = a.Handle := by
      unfold hnd
      rw [show i + 1 - 1 = i from by omega, hxa]
    rw [ht, if_neg (show ¬ i + 1 = 0 by omega), hh]
    unfold stepP database_Check_j2
    rw [w64_nat i (by omega)]
    by_cases c1 : isv a.f_Type = true
    · rw [if_pos c1, if_pos c1]
    · rw [if_neg c1, if_neg c1]
      by_cases c2 : isN a.f_Type 10243 = true
      · rw [if_pos c2, if_pos c2]
      · rw [if_neg c2, if_neg c2]
        by_cases c3 : isN a.f_Type 10498 = true
        · rw [if_pos c3, if_pos c3]
        · rw [if_neg c3, if_neg c3]) (by
    show database_Check_l1 F db _ _ (db.length : Int) = _
    unfold database_Check_l1
    rw [if_neg (df (by rw [len_nat]; omega))]) F 0 (by omega) (by omega)
  rw [if_pos rfl, List.take_zero] at this
  rw [show plc [] = T_database_place.mk false false from rfl, show ((0 : Nat) : Int) = 0 from rfl] at this
  rw [this]
  rfl
theorem uhash (F : Nat) (db : List T_api_Attribute) (hdb : ∀ a ∈ db, AOk a) (hv : ∀ a ∈ db, a.Value.length ≤ 8192) (hn : db.length ≤ 1000) (hF : 2000 < F) : database_Hash F db = database_Hash_j1 F (hbs db) := by
  unfold database_Hash
  rw [u_hbs F db hdb hv hn hF, Option.bind_some]
theorem sets_law (db : List T_api_Attribute) (h : Int) (v : List Int) (hdb : ∀ a ∈ db, AOk a) (hn : db.length ≤ 140737488355328) (hvb : ∀ x ∈ v, Byte x) (hvl : v.length ≤ 140737488355328) : wirelesslaw43_DatabaseSets FF db h v = some true := by
  have hF : FF = 1125899906842624 := rfl
  unfold wirelesslaw43_DatabaseSets
  obtain ⟨b, h1, h2⟩ := fine_ok FF db hdb (by omega) (by omega)
  rw [h1, Option.bind_some, example_ok]
  cases b with
  | false => rfl
  | true =>
    obtain ⟨hl, hv, hck⟩ := h2 rfl
    by_cases hvl2 : len v > 4096
    · rw [if_pos (by rw [dt hvl2]; rfl)]
      rfl
    · rw [len_nat] at hvl2
      rw [if_neg (by rw [decide_eq_false (show ¬ len v > 4096 by rw [len_nat]; omega)]; decide)]
      have hg := rcheck_all FF db hdb (by omega) (by omega) hck
      obtain ⟨hasc, _, hpos⟩ := rcheck_good FF db hdb (by omega) (by omega) hck
      rw [uset FF db hdb hv (by omega) h v (by omega) (by omega), rset FF db (by omega) h v (by omega) (by omega), Option.bind_some, Option.bind_some]
      have fin : ∀ (x : List T_api_Attribute × Int), x.1.length ≤ 100 → x.2 ≠ 0 ∨ (x.2 = 0 ∧ ∃ i a, db[i]? = some a ∧ resv a.f_Type = false ∧ v.length ≤ 512 ∧ x.1 = db.set i (wv a v)) →
          ((if (x.2 != x.2) = true then some true else (wirelessref43_SameDB FF x.1 x.1).bind fun x_28 => some (!x_28)).bind fun z_9 => if z_9 = true then some false else if (x.2 != 0) = true then (some true).bind fun x_10 => some x_10 else (database_Check FF x.1).bind fun x_11 => (if (x_11 == 0) = true then (database_Found FF x.1).bind fun x_24 => (database_Found FF db).bind fun x_25 => (wirelessref43_SameFound FF x_24 x_25).bind fun x_26 => some x_26 else some false).bind fun z_13 => (if z_13 = true then (database_Hash FF x.1).bind fun x_21 => (database_Hash FF db).bind fun x_22 => some (x_21 == x_22) else some false).bind fun z_15 => (if z_15 = true then (some true).bind fun x_19 => some x_19 else some false).bind fun z_17 => some z_17) = some true := by
        rintro ⟨x, e⟩ hxl hx
        simp only at hxl hx ⊢
        rw [if_neg (by simp), sameDB FF x (by omega) (by omega), Option.bind_some, Option.bind_some, if_neg (by decide)]
        rcases hx with he | ⟨rfl, i, a, hia, hr, hv5, rfl⟩
        · rw [if_pos (bne_iff_ne.2 he)]
          rfl
        · rw [if_neg (by decide)]
          have hilt := (List.getElem?_eq_some_iff.1 hia).1
          have ha := hdb a (List.mem_of_getElem? hia)
          have hwv : AOk (wv a v) := ⟨ha.h0, ha.h1, ha.u, hvb, by show v.length ≤ _; omega⟩
          have hmem : ∀ c ∈ db.set i (wv a v), c ∈ db ∨ c = wv a v := fun c hc => List.mem_or_eq_of_mem_set hc
          have hdb' : ∀ c ∈ db.set i (wv a v), AOk c := fun c hc => by
            rcases hmem c hc with hc | rfl
            · exact hdb c hc
            · exact hwv
          have hv' : ∀ c ∈ db.set i (wv a v), c.Value.length ≤ 8192 := fun c hc => by
            rcases hmem c hc with hc | rfl
            · exact hv c hc
            · show v.length ≤ _
              omega
          have hup : Hup (db.set i (wv a v)) := by
            refine ⟨fun j c d hc hd => ?_, fun c hc => ?_⟩
            · obtain ⟨c', hc', e1, _⟩ := set_at hia hc
              obtain ⟨d', hd', e2, _⟩ := set_at hia hd
              rw [e1, e2]
              exact hasc j c' d' hc' hd'
            · rcases hmem c hc with hc | rfl
              · exact hpos c hc
              · exact hpos a (List.mem_of_getElem? hia)
          have hl' : (db.set i (wv a v)).length = db.length := List.length_set
          obtain ⟨y, hy, _⟩ := hash_same FF db hdb hv (by omega) (by omega)
          have hy' : database_Hash FF (db.set i (wv a v)) = some y := by
            rw [uhash FF _ hdb' hv' (by omega) (by omega), set_hash hia hr, ← uhash FF db hdb hv (by omega) (by omega)]
            exact hy
          have hfl := fnd_len (grp db) db ([], false)
          simp only [List.length_nil] at hfl
          rw [ucheck1 FF _ hdb' (set_good hg hia hr hv5) hup (by omega) (by omega), Option.bind_some, if_pos (by decide), ufound FF _ hdb' (by omega) (by omega), ufound FF db hdb (by omega) (by omega), set_found hia hr, Option.bind_some, Option.bind_some, sameFound FF _ (by omega) (by omega), Option.bind_some, Option.bind_some, if_pos rfl, hy', hy, Option.bind_some, Option.bind_some, Option.bind_some, if_pos (by simp)]
          rfl
      refine fin (sres db h v) ?_ ?_
      · unfold sres
        cases hk : db.findIdx? (fun a => a.Handle == h) with
        | none => exact hl
        | some k =>
          obtain ⟨a, hx, _⟩ := find_some hk
          simp only
          rw [hx]
          simp only
          by_cases hr : resv a.f_Type = true
          · rw [if_pos hr]; exact hl
          · rw [if_neg hr]
            by_cases hq : decide (len v > 512) = true
            · rw [if_pos hq]; exact hl
            · rw [if_neg hq]
              show (db.set k (wv a v)).length ≤ 100
              rw [List.length_set]
              exact hl
      · unfold sres
        cases hk : db.findIdx? (fun a => a.Handle == h) with
        | none => exact .inl (show (6 : Int) ≠ 0 by decide)
        | some k =>
          obtain ⟨a, hx, _⟩ := find_some hk
          simp only
          rw [hx]
          simp only
          by_cases hr : resv a.f_Type = true
          · rw [if_pos hr]; exact .inl (show (14 : Int) ≠ 0 by decide)
          · rw [if_neg hr]
            by_cases hq : len v > 512
            · rw [if_pos (dt hq)]; exact .inl (show (4 : Int) ≠ 0 by decide)
            · rw [if_neg (df hq)]
              exact .inr ⟨rfl, k, a, hx, (Bool.not_eq_true _).mp hr, by rw [len_nat] at hq; omega, rfl⟩
end V
end Go.Proofs.Ytchlimkophmjlaa
