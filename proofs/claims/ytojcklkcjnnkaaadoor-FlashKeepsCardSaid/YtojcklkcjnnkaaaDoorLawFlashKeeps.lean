/-
  FlashKeeps.
-/
import Derived.Test.YtojcklkcjnnkaaaDoorLawK
import Derived.Test.YtojcklkcjnnkaaaDoorOpen
namespace Go.Proofs.YtojcklkcjnnkaaaDoor
namespace V
def recs (l : List T_api_Item) : List Int := (l.map fun x => recB x.Key x.Value).flatten
theorem recs_snoc (l : List T_api_Item) (x : T_api_Item) : recs (l ++ [x]) = recs l ++ recB x.Key x.Value := by simp [recs]
theorem recs_len : ∀ (l : List T_api_Item), (∀ x ∈ l, OkI x) → (recs l).length ≤ 1032 * l.length
  | [], _ => by simp [recs]
  | x :: l, h => by
    have h1 := (h x (by simp)).vl
    have h2 := recs_len l fun y hy => h y (by simp [hy])
    have e : (recs (x :: l)).length = (recB x.Key x.Value).length + (recs l).length := by simp [recs]
    rw [e, recB_len, List.length_cons]
    omega
theorem recs_byte (l : List T_api_Item) (h : ∀ x ∈ l, OkI x) : ∀ b ∈ recs l, Byte b := fun b hb => by
  obtain ⟨y, hy, hby⟩ := List.mem_flatten.1 hb
  obtain ⟨x, hx, rfl⟩ := List.mem_map.1 hy
  exact seal_byte (rec_in _ (h x hx).vb) b hby
theorem all_f (F : Nat) (l : List T_api_Item) (h : ∀ x ∈ l, OkI x) (hl : l.length ≤ 100000) (hF : 200000 < F) (hFF : F ≤ FF) : iter (fun s : List Int × Int => flash_Plan_l1 F l s.1 s.2) F ([], 0) = some (recs l) := by
  have := iter_count (body := fun s : List Int × Int => flash_Plan_l1 F l s.1 s.2) (fun i => (recs (l.take i), (i : Int))) l.length (recs l) (by
    intro i hi
    have hx : l[i]? = some l[i] := List.getElem?_eq_getElem hi
    have hok := h _ (List.getElem_mem hi)
    have hn := recs_len (l.take i) fun y hy => h y (List.mem_of_mem_take hy)
    have htl : (l.take i).length ≤ i := by simp; omega
    rw [List.take_add_one, hx, Option.toList_some, recs_snoc]
    generalize l[i] = x at *
    show flash_Plan_l1 F l (recs (l.take i)) (i : Int) = _
    unfold flash_Plan_l1
    have hvl := hok.vl
    rw [if_pos (dt (by rw [len_nat]; omega)), idx_nat, hx, Option.bind_some, record_eq F x.Key x.Value hok.k0 hok.k1 hok.vb (by omega) (by omega) hFF, Option.bind_some, app_cat (by rw [recB_len]; omega), Option.bind_some, w64_nat i (by omega)]) (by
    show flash_Plan_l1 F l _ _ = _
    unfold flash_Plan_l1
    rw [if_neg (df (by rw [len_nat]; omega)), List.take_length]) F 0 (by omega) (by omega)
  exact this
theorem all_r (F : Nat) (l : List T_api_Item) (h : ∀ x ∈ l, OkI x) (hl : l.length ≤ 100000) (hF : 200000 < F) (hFF : F ≤ FF) : iter (fun s : List Int × Int => wirelessref39_Plan_l1 F l s.1 s.2) F ([], 0) = some (recs l) := by
  have := iter_count (body := fun s : List Int × Int => wirelessref39_Plan_l1 F l s.1 s.2) (fun i => (recs (l.take i), (i : Int))) l.length (recs l) (by
    intro i hi
    have hx : l[i]? = some l[i] := List.getElem?_eq_getElem hi
    have hok := h _ (List.getElem_mem hi)
    have hn := recs_len (l.take i) fun y hy => h y (List.mem_of_mem_take hy)
    have htl : (l.take i).length ≤ i := by simp; omega
    rw [List.take_add_one, hx, Option.toList_some, recs_snoc]
    generalize l[i] = x at *
    show wirelessref39_Plan_l1 F l (recs (l.take i)) (i : Int) = _
    unfold wirelessref39_Plan_l1
    have hvl := hok.vl
    rw [if_pos (dt (by rw [len_nat]; omega)), idx_nat, hx, Option.bind_some, Option.bind_some, rrecord_eq F x.Key x.Value hok.k0 hok.k1 hok.vb (by omega) (by omega) hFF, Option.bind_some, app_cat (by rw [recB_len]; omega), Option.bind_some, w64_nat i (by omega)]) (by
    show wirelessref39_Plan_l1 F l _ _ = _
    unfold wirelessref39_Plan_l1
    rw [if_neg (df (by rw [len_nat]; omega)), List.take_length]) F 0 (by omega) (by omega)
  exact this
/-- Nothing is to be written: the key has the value. -/
def same (l : List T_api_Item) (k : Int) (v : List Int) : Bool := match l.find? (fun x => x.Key == k) with
  | none => decide (v = [])
  | some x => decide (x.Value = v)
theorem same_f (F : Nat) (l : List T_api_Item) (k : Int) (v : List Int) (h : ∀ x ∈ l, OkI x) (hF : 200000 < F) (hv : v.length ≤ 1024) :
    (if ((got (l.find? fun x => x.Key == k)).2 == (decide ((len v) > 0))) = true then (slices_Equal_byte_byte F (got (l.find? fun x => x.Key == k)).1 v).bind fun x_20 => some (x_20) else some (false)) = some (same l k v) := by
  unfold same
  have hd1 : decide (len v > 0) = !decide (v = []) := by
    cases v with
    | nil => rfl
    | cons _ _ => simp [len]
  cases hf : l.find? fun x => x.Key == k with
  | none =>
    show (if (false == (decide ((len v) > 0))) = true then (slices_Equal_byte_byte F [] v).bind fun x_20 => some (x_20) else some (false)) = some (decide (v = []))
    rw [hd1]
    by_cases hz : v = []
    · subst hz
      rw [if_pos (by decide), equal_eq F _ _ (by simp) hF]
      rfl
    · rw [if_neg (by simp [hz])]
      simp [hz]
  | some x =>
    have hx := h x (List.mem_of_find?_eq_some hf)
    show (if (true == (decide ((len v) > 0))) = true then (slices_Equal_byte_byte F x.Value v).bind fun x_20 => some (x_20) else some (false)) = some (decide (x.Value = v))
    rw [hd1]
    have hvl := hx.vl
    by_cases hz : v = []
    · rw [if_neg (by simp [hz])]
      subst hz
      simp [hx.vn]
    · rw [if_pos (by simp [hz]), equal_eq F _ _ (by omega) hF]
      rfl
theorem same_r (l : List T_api_Item) (k : Int) (v : List Int) (h : ∀ x ∈ l, OkI x) (hvb : ∀ x ∈ v, Byte x) :
    ((if (got (l.find? fun x => x.Key == k)).2 = true then some (((str (got (l.find? fun x => x.Key == k)).1) == (str v))) else some (false)) : Option Bool).bind (fun z => some (z || ((!(got (l.find? fun x => x.Key == k)).2) && ((len v) == 0)))) = some (same l k v) := by
  unfold same
  cases hf : l.find? fun x => x.Key == k with
  | none =>
    show ((some false : Option Bool).bind fun z => some (z || (!false && (len v == 0)))) = some (decide (v = []))
    cases v with
    | nil => rfl
    | cons _ _ => simp [len]; omega
  | some x =>
    have hx := h x (List.mem_of_find?_eq_some hf)
    show ((some (str x.Value == str v) : Option Bool).bind fun z => some (z || (!true && (len v == 0)))) = some (decide (x.Value = v))
    rw [str_bytes hx.vb, str_bytes hvb, Option.bind_some]
    by_cases hq : x.Value = v
    · simp [hq]
    · simp [hq]
theorem plan_w1 (n : Nat) (h : n ≤ 200000000) : w64 (10 + (n : Int)) = 10 + n := w64_id (by omega) (by omega)
theorem plan_w2 (n : Nat) (h : n ≤ 200000000) : w64 ((n : Int) + 10) = n + 10 := w64_id (by omega) (by omega)
theorem plan_w3 {b : Int} (h0 : 0 ≤ b) (h1 : b ≤ 1) : w64 (1 - b) = 1 - b := w64_id (by omega) (by omega)
theorem plan_w4 {b : Int} (h0 : 0 ≤ b) (h1 : b < 4294967296) : w64 (b + 1) = b + 1 := w64_id (by omega) (by omega)
/-- What a plan is. -/
inductive PlanOk (s : T_api_Store) (k : Int) (v : List Int) (m : List T_api_Item) : List T_api_Write → Int → Prop where
  | long (h : 1024 < v.length) : PlanOk s k v m [] 4
  | same (h : same s.Items k v = true) (hv : v.length ≤ 1024) : PlanOk s k v m [] 0
  | app (hv : v.length ≤ 1024) (h : ((recB k v).length : Int) ≤ s.Flash.Banks.1.length - s.End) : PlanOk s k v m [⟨s.Bank, false, s.End, recB k v⟩] 0
  | full (hv : v.length ≤ 1024) : PlanOk s k v m [] 8
  | new (hv : v.length ≤ 1024) (h : 10 + (recs m).length ≤ s.Flash.Banks.1.length) (hc : s.Count < 4294967295) : PlanOk s k v m [⟨1 - s.Bank, true, 0, []⟩, ⟨1 - s.Bank, false, 10, recs m⟩, ⟨1 - s.Bank, false, 0, headB (s.Count + 1)⟩] 0
theorem plan_both (F : Nat) (f : T_api_Flash) (s : T_api_Store) (hm : Mtd f s) (hf : f.Banks.1.length ≤ 65536) (k : Int) (k0 : 0 ≤ k) (k1 : k < 65536) (v : List Int) (hvb : ∀ x ∈ v, Byte x) (hF : 200000 < F) (hFF : F ≤ FF) :
    ∃ m ws e, (v.length ≤ 1024 → wirelessref39_Set F s.Items k v = some m) ∧ flash_Plan F s k v = some (ws, e) ∧ wirelessref39_Plan F s k v = some (ws, e) ∧ PlanOk s k v m ws e ∧ (v.length ≤ 1024 → Lst m ∧ m.length ≤ s.Items.length + 1) := by
  obtain ⟨hfl, hbk, he0, he1, hc0, hc1, hit, hil, hsz⟩ := hm
  unfold flash_Plan wirelessref39_Plan
  rw [len_nat]
  by_cases hv : v.length ≤ 1024
  · have c0 : ¬ decide ((v.length : Int) > 1024) = true := df (by omega)
    rw [if_neg c0, if_neg c0]
    rw [get_eq F s k hit (by omega) hF, rget_eq F s k (fun x hx => by have := (hit.ok x hx).vl; omega) (by omega) hF, Option.bind_some, Option.bind_some]
    obtain ⟨m, m1, m2, m3, m4⟩ := set_both F s.Items ⟨k, v⟩ hit k0 k1 hvb hv (by omega) hF
    have hsf := same_f F s.Items k v hit.ok hF hv
    have hsr := same_r s.Items k v hit.ok hvb
    rw [len_nat] at hsf
    rw [hsf, Option.bind_some]
    generalize (if (got (s.Items.find? fun x => x.Key == k)).2 = true then some ((str (got (s.Items.find? fun x => x.Key == k)).1) == (str v)) else some (false) : Option Bool) = q at hsr ⊢
    cases q with
    | none => cases hsr
    | some q =>
      rw [Option.bind_some, Option.some.injEq] at hsr
      rw [len_nat] at hsr
      rw [Option.bind_some, hsr]
      by_cases hs : same s.Items k v = true
      · rw [if_pos hs, if_pos hs]
        exact ⟨m, [], 0, fun _ => m2, rfl, rfl, .same hs hv, fun _ => ⟨m3, m4⟩⟩
      · rw [if_neg hs, if_neg hs]
        rw [record_eq F k v k0 k1 hvb (by omega) (by omega) hFF, rrecord_eq F k v k0 k1 hvb (by omega) (by omega) hFF, Option.bind_some, Option.bind_some]
        unfold flash_Free flash_size flash_Free_j1
        rw [Option.bind_some, Option.bind_some, len_nat, len_nat, hfl]
        have hw : w64 ((f.Banks.1.length : Int) - s.End) = (f.Banks.1.length : Int) - s.End := w64_id (by omega) (by omega)
        rw [hw]
        clear hw
        by_cases hr : ((recB k v).length : Int) ≤ f.Banks.1.length - s.End
        · rw [if_pos (dt hr), if_pos (dt hr)]
          exact ⟨m, _, 0, fun _ => m2, rfl, rfl, .app hv (by rw [hfl]; exact hr), fun _ => ⟨m3, m4⟩⟩
        · rw [if_neg (df hr), if_neg (df hr)]
          unfold slices_Clone_api_Item_api_Item
          rw [app_small (by simp; omega) (by decide), List.nil_append, Option.bind_some, Option.bind_some, m1, Option.bind_some]
          simp only at m2
          rw [m2, Option.bind_some, all_f F m m3.ok (by omega) hF hFF, all_r F m m3.ok (by omega) hF hFF, Option.bind_some, Option.bind_some]
          unfold flash_Plan_j1 wirelessref39_Plan_j1 flash_size
          have hml := recs_len m m3.ok
          rw [Option.bind_some, len_nat, len_nat, hfl]
          have hk1 : (recs m).length ≤ 200000000 := by omega
          have hb0 : 0 ≤ s.Bank ∧ s.Bank ≤ 1 := by omega
          generalize hR : recs m = R at *
          rw [plan_w1 R.length hk1, plan_w2 R.length hk1, plan_w3 hb0.1 hb0.2, plan_w4 hc0 hc1]
          by_cases hn : 10 + R.length ≤ f.Banks.1.length ∧ s.Count < 4294967295
          · have c1 : ¬ ((decide ((10 + (R.length : Int)) > (f.Banks.1.length : Int))) || (decide (s.Count ≥ 4294967295))) = true := by simp; omega
            have c2 : ¬ ((decide (((R.length : Int) + 10) > (f.Banks.1.length : Int))) || (s.Count == 4294967295)) = true := by simp; omega
            rw [if_neg c1, if_neg c2, header_eq F _ (by omega) (by omega) (by omega) hFF, rheader_eq F _ (by omega) (by omega) (by omega) hFF, Option.bind_some]
            subst hR
            exact ⟨m, _, 0, fun _ => rfl, rfl, rfl, .new hv (by rw [hfl]; exact hn.1) hn.2, fun _ => ⟨m3, m4⟩⟩
          · have c1 : ((decide ((10 + (R.length : Int)) > (f.Banks.1.length : Int))) || (decide (s.Count ≥ 4294967295))) = true := by simp; omega
            have c2 : ((decide (((R.length : Int) + 10) > (f.Banks.1.length : Int))) || (s.Count == 4294967295)) = true := by simp; omega
            rw [if_pos c1, if_pos c2]
            exact ⟨m, [], 8, fun _ => rfl, rfl, rfl, .full hv, fun _ => ⟨m3, m4⟩⟩
  · have c0 : decide ((v.length : Int) > 1024) = true := dt (by omega)
    rw [if_pos c0, if_pos c0]
    exact ⟨[], [], 4, fun h => absurd h hv, rfl, rfl, .long (by omega), fun h => absurd h hv⟩
structure OkW (w : T_api_Write) : Prop where
  b : w.Bytes.length ≤ 65536
  o : I64 w.Offset
theorem plan_ok {s : T_api_Store} {k : Int} {v : List Int} {m : List T_api_Item} {ws : List T_api_Write} {e : Int} (f : T_api_Flash) (hm : Mtd f s) (hf : f.Banks.1.length ≤ 65536) (h : PlanOk s k v m ws e) : (∀ w ∈ ws, OkW w) ∧ ws.length ≤ 100 ∧ (e ≠ 0 → ws = []) ∧ (e = 0 ∨ e = 4 ∨ e = 8) := by
  obtain ⟨hfl, hbk, he0, he1, hc0, hc1, hit, hil, hsz⟩ := hm
  cases h with
  | long h => exact ⟨fun w hw => by simp at hw, by simp, fun _ => rfl, .inr (.inl rfl)⟩
  | same h => exact ⟨fun w hw => by simp at hw, by simp, fun _ => rfl, .inl rfl⟩
  | full h => exact ⟨fun w hw => by simp at hw, by simp, fun _ => rfl, .inr (.inr rfl)⟩
  | app hv h =>
    rw [hfl] at h
    refine ⟨fun w hw => ?_, by simp, fun h => absurd rfl h, .inl rfl⟩
    rw [List.mem_singleton] at hw
    subst hw
    exact ⟨by simp only; omega, by simp only [I64]; omega⟩
  | new hv h hc =>
    rw [hfl] at h
    refine ⟨fun w hw => ?_, by simp, fun h => absurd rfl h, .inl rfl⟩
    have hw' : w = ⟨1 - s.Bank, true, 0, []⟩ ∨ w = ⟨1 - s.Bank, false, 10, recs m⟩ ∨ w = ⟨1 - s.Bank, false, 0, headB (s.Count + 1)⟩ := by simpa using hw
    rcases hw' with rfl | rfl | rfl
    · exact ⟨by simp, by simp only [I64]; omega⟩
    · exact ⟨by simp only; omega, by simp only [I64]; omega⟩
    · exact ⟨by simp only [headB_len]; omega, by simp only [I64]; omega⟩
theorem kept_id (F : Nat) (f : T_api_Flash) (s : T_api_Store) (hm : Mtd f s) (h1 : f.Banks.1.length ≤ 65536) (h2 : f.Banks.2.length ≤ 65536) (hF : 200000 < F) : flash_kept F s = some s := by
  unfold flash_kept
  have hil := hm.il
  rw [hm.fl, copied_id F f h1 h2 (by omega), Option.bind_some]
  have := iter_count (body := fun q : List T_api_Item × Int => flash_kept_l1 F s q.1 q.2) (fun i => (s.Items.take i, (i : Int))) s.Items.length s.Items (by
    intro i hi
    have hx : s.Items[i]? = some s.Items[i] := List.getElem?_eq_getElem hi
    have hok := (hm.it.ok _ (List.getElem_mem hi)).vl
    have htl : (s.Items.take i).length ≤ i := by simp; omega
    rw [List.take_add_one, hx, Option.toList_some]
    generalize s.Items[i] = x at *
    show flash_kept_l1 F s (s.Items.take i) (i : Int) = _
    unfold flash_kept_l1
    rw [if_pos (dt (by rw [len_nat]; omega)), idx_nat, hx, Option.bind_some, join_one F _ (by omega) (by omega), Option.bind_some, app_small (by simp; omega) (by decide), Option.bind_some, w64_nat i (by omega)]) (by
    show flash_kept_l1 F s _ _ = _
    unfold flash_kept_l1
    rw [if_neg (df (by rw [len_nat]; omega)), List.take_length]) F 0 (by omega) (by omega)
  rw [List.take_zero, show ((0 : Nat) : Int) = 0 from rfl] at this
  rw [this, Option.bind_some]
  unfold flash_kept_j1
  rw [← hm.fl]
theorem sl_take {b b' : List Int} {e : Nat} (h : b.take e = b'.take e) {i j : Nat} (hj : j ≤ e) : sl b i j = sl b' i j := by
  unfold sl
  have h2 := congrArg (List.take j) h
  rw [List.take_take, List.take_take, Nat.min_eq_left hj] at h2
  rw [h2]
theorem sl_sl (b : List Int) (i j x y : Nat) (h : i + y ≤ j) : sl (sl b i j) x y = sl b (i + x) (i + y) := by
  unfold sl
  rw [List.take_drop, List.take_take, Nat.min_eq_left h, List.drop_drop]
theorem sl_mid (A B C : List Int) : sl (A ++ (B ++ C)) A.length (A.length + B.length) = B := by
  unfold sl
  rw [← List.append_assoc, ← List.length_append, List.take_left, List.drop_left]
theorem sl_get (b : List Int) (i j x : Nat) (h : i + x < j) : (sl b i j)[x]? = b[i + x]? := by
  unfold sl
  rw [List.getElem?_drop, List.getElem?_take, if_pos h]
structure RecAt (b : List Int) (e : Nat) (k : Int) (v : List Int) : Prop where
  vl : v.length ≤ 1024
  fit : e + 8 + v.length ≤ b.length
  eq : sl b e (e + 8 + v.length) = recB k v
  vb : ∀ x ∈ v, Byte x
  k0 : 0 ≤ k
  k1 : k < 65536
theorem rec_form (k : Int) (v : List Int) : recB k v = leb 2 v.length ++ (leb 2 k ++ (v ++ (leb 3 (crcs 0 (leb 2 v.length ++ leb 2 k ++ v) : Nat) ++ [0]))) := by
  unfold recB sealB
  simp only [List.append_assoc]
theorem rec_sl0 (k : Int) (v : List Int) : sl (recB k v) 0 2 = leb 2 v.length := by
  rw [rec_form]
  have := sl_mid [] (leb 2 v.length) (leb 2 k ++ (v ++ (leb 3 (crcs 0 (leb 2 v.length ++ leb 2 k ++ v) : Nat) ++ [0])))
  rw [leb_length] at this
  exact this
theorem rec_sl2 (k : Int) (v : List Int) : sl (recB k v) 2 4 = leb 2 k := by
  rw [rec_form]
  have := sl_mid (leb 2 v.length) (leb 2 k) (v ++ (leb 3 (crcs 0 (leb 2 v.length ++ leb 2 k ++ v) : Nat) ++ [0]))
  rw [leb_length, leb_length] at this
  exact this
theorem rec_sl4 (k : Int) (v : List Int) : sl (recB k v) 4 (4 + v.length) = v := by
  rw [rec_form]
  have := sl_mid (leb 2 v.length ++ leb 2 k) v (leb 3 (crcs 0 (leb 2 v.length ++ leb 2 k ++ v) : Nat) ++ [0])
  rw [List.length_append, leb_length, leb_length, List.append_assoc] at this
  exact this
theorem rec_at0 (k : Int) (v : List Int) : (recB k v)[0]? = some ((v.length : Int) % 256) := by rw [rec_form]; rfl
theorem rec_at1 (k : Int) (v : List Int) : (recB k v)[1]? = some ((v.length : Int) / 256 % 256) := by rw [rec_form]; rfl
theorem seal_last (b : List Int) : (sealB b)[b.length + 3]? = some 0 := by
  unfold sealB
  rw [List.getElem?_append_right (by simp [leb_length])]
  simp [leb_length]
theorem rec_last (k : Int) (v : List Int) : (recB k v)[v.length + 7]? = some 0 := by
  have := seal_last (leb 2 v.length ++ leb 2 k ++ v)
  rw [List.length_append, List.length_append, leb_length, leb_length, show 2 + 2 + v.length + 3 = v.length + 7 from by omega] at this
  exact this
section
variable {F : Nat} {b : List Int} {e : Nat} {k : Int} {v : List Int}
theorem RecAt.get (h : RecAt b e k v) {i : Nat} (hi : i < v.length + 8) : b[e + i]? = (recB k v)[i]? := by
  rw [← h.eq, sl_get _ _ _ _ (by omega)]
theorem RecAt.s0 (h : RecAt b e k v) : sl b e (e + 2) = leb 2 v.length := by
  have := sl_sl b e (e + 8 + v.length) 0 2 (by omega)
  rw [h.eq, rec_sl0] at this
  exact this.symm
theorem RecAt.s2 (h : RecAt b e k v) : sl b (e + 2) (e + 4) = leb 2 k := by
  rw [← rec_sl2 k v, ← h.eq, sl_sl _ _ _ _ _ (by omega)]
theorem RecAt.s4 (h : RecAt b e k v) : sl b (e + 4) (e + 4 + v.length) = v := by
  have := sl_sl b e (e + 8 + v.length) 4 (4 + v.length) (by omega)
  rw [h.eq, rec_sl4, ← Nat.add_assoc] at this
  exact this.symm
theorem num_leb2 {n : Int} (h0 : 0 ≤ n) (h1 : n < 65536) : num (leb 2 n) = n := by
  rw [num_leb, show (256 : Int) ^ 2 = 65536 from rfl, Int.emod_eq_of_lt h0 h1]
theorem readP_rec (h : RecAt b e k v) (hb : ∀ x ∈ b, Byte x) (hl : b.length ≤ 65536) (hF : 200000 < F) (hFF : F ≤ FF) : flash_readP F b e = some (some (⟨k, v⟩, ((e + 8 + v.length : Nat) : Int))) := by
  obtain ⟨K, hK⟩ := Int.eq_ofNat_of_zero_le h.k0
  have hk1 := h.k1
  have hvl := h.vl
  have hfit := h.fit
  subst hK
  have v1 : flash_value F (sl b e (e + 2)) = some (v.length : Int) := by
    rw [value_eq F _ (sl_byte hb _ _) (by rw [h.s0, leb_length]; omega) (by omega), h.s0, num_leb2 (by omega) (by omega)]
  have v2 : flash_value F (sl b (e + 2) (e + 4)) = some (K : Int) := by
    rw [value_eq F _ (sl_byte hb _ _) (by rw [h.s2, leb_length]; omega) (by omega), h.s2, num_leb2 (by omega) (by omega)]
  rw [readP_core F b e v.length K v (recB K v) hl (by omega) hF hFF v1 (by omega) v2 (by omega) h.s4 h.eq h.vb (fun _ _ => rfl), if_pos ⟨hvl, hfit, rfl⟩]
theorem readP_none (h : ∀ k v, ¬ RecAt b e k v) (he : e ≤ b.length) (hb : ∀ x ∈ b, Byte x) (hl : b.length ≤ 65536) (hF : 200000 < F) (hFF : F ≤ FF) : flash_readP F b e = some none := by
  by_cases h8 : e + 8 ≤ b.length
  · obtain ⟨n, hn, hn1⟩ : ∃ n : Nat, num (sl b e (e + 2)) = (n : Int) ∧ n < 65536 := by
      obtain ⟨h0, h1⟩ := num2 hb (i := e) (by omega)
      generalize num (sl b e (e + 2)) = z at *
      exact ⟨z.toNat, by omega, by omega⟩
    obtain ⟨K, hk, hk1⟩ : ∃ n : Nat, num (sl b (e + 2) (e + 4)) = (n : Int) ∧ n < 65536 := by
      obtain ⟨h0, h1⟩ := num2 hb (i := e + 2) (by omega)
      rw [show e + 2 + 2 = e + 4 from rfl] at h0 h1
      generalize num (sl b (e + 2) (e + 4)) = z at *
      exact ⟨z.toNat, by omega, by omega⟩
    have l2 : (sl b e (e + 2)).length = 2 := by rw [sl_len (by omega) (by omega)]; omega
    have l3 : (sl b (e + 2) (e + 4)).length = 2 := by rw [sl_len (by omega) (by omega)]; omega
    have v1 : flash_value F (sl b e (e + 2)) = some (n : Int) := by rw [value_eq F _ (sl_byte hb _ _) (by omega) (by omega), hn]
    have v2 : flash_value F (sl b (e + 2) (e + 4)) = some (K : Int) := by rw [value_eq F _ (sl_byte hb _ _) (by omega) (by omega), hk]
    have hvl : n ≤ 1024 → e + 8 + n ≤ b.length → (sl b (e + 4) (e + 4 + n)).length = n := fun _ _ => by rw [sl_len (by omega) (by omega)]; omega
    rw [readP_core F b e n K _ _ hl h8 hF hFF v1 hn1 v2 hk1 rfl rfl (sl_byte hb _ _) hvl, if_neg]
    rintro ⟨c1, c2, c3⟩
    have hl4 := hvl c1 c2
    refine h K (sl b (e + 4) (e + 4 + n)) ⟨by omega, by omega, ?_, sl_byte hb _ _, by omega, by omega⟩
    rw [hl4, c3]
  · exact readP_end F b e hl he h8
/-- Records from one place of a bank to another, and what they make of items. -/
inductive Reads (F : Nat) (b : List Int) : List T_api_Item → Nat → List T_api_Item → Nat → Prop where
  | refl (l : List T_api_Item) (e : Nat) : Reads F b l e l e
  | step {l m l2 : List T_api_Item} {e e2 : Nat} {k : Int} {v : List Int} (h : RecAt b e k v) (hs : flash_set F l ⟨k, v⟩ = some m) (t : Reads F b m (e + 8 + v.length) l2 e2) : Reads F b l e l2 e2
theorem Reads.mono {l l2 : List T_api_Item} {e2 : Nat} (h : Reads F b l e l2 e2) : e ≤ e2 := by
  induction h with
  | refl => omega
  | step _ _ _ ih => omega
theorem Reads.trans {l m l2 : List T_api_Item} {e1 e2 : Nat} (h : Reads F b l e m e1) (h2 : Reads F b m e1 l2 e2) : Reads F b l e l2 e2 := by
  induction h with
  | refl => exact h2
  | step a s _ ih => exact .step a s (ih h2)
theorem Reads.pre {b' : List Int} {l l2 : List T_api_Item} {e2 : Nat} (h : Reads F b l e l2 e2) (hq : b.take e2 = b'.take e2) (hl : e2 ≤ b'.length) : Reads F b' l e l2 e2 := by
  induction h with
  | refl => exact .refl ..
  | step a s t ih =>
    have := t.mono
    exact .step ⟨a.vl, by omega, by rw [← sl_take hq (by omega)]; exact a.eq, a.vb, a.k0, a.k1⟩ s (ih hq hl)
theorem Reads.run {l l2 : List T_api_Item} {e2 : Nat} (h : Reads F b l e l2 e2) (hn : flash_readP F b e2 = some none) (hb : ∀ x ∈ b, Byte x) (hl : b.length ≤ 65536) (hF : 200000 < F) (hFF : F ≤ FF) :
    ∀ f : Nat, e2 - e < f → iter (fun s : List T_api_Item × Int => flash_contents_l1 F b s.1 s.2) f (l, (e : Int)) = some (l2, (e2 : Int)) := by
  induction h with
  | refl l e =>
    intro f hf
    obtain ⟨f, rfl⟩ : ∃ f', f = f' + 1 := ⟨f - 1, by omega⟩
    refine iter_stop ?_
    show flash_contents_l1 F b l (e : Int) = _
    unfold flash_contents_l1
    rw [hn, Option.bind_some]
  | step a s t ih =>
    intro f hf
    obtain ⟨f, rfl⟩ : ∃ f', f = f' + 1 := ⟨f - 1, by omega⟩
    have := t.mono
    rw [iter_step, ih hn f (by omega)]
    show flash_contents_l1 F b _ _ = _
    unfold flash_contents_l1
    rw [readP_rec a hb hl hF hFF, Option.bind_some]
    simp only [s, Option.bind_some]
theorem reads_ex (hb : ∀ x ∈ b, Byte x) (hl : b.length ≤ 65536) (hF : 200000 < F) (hFF : F ≤ FF) : ∀ (n : Nat) (l : List T_api_Item) (e : Nat), b.length - e ≤ n → e ≤ b.length → Lst l → l.length ≤ e →
    ∃ l2 e2, Reads F b l e l2 e2 ∧ flash_readP F b e2 = some none ∧ e2 ≤ b.length ∧ Lst l2 ∧ l2.length ≤ e2 := by
  intro n
  induction n with
  | zero =>
    intro l e h1 h2 h3 h4
    exact ⟨l, e, .refl .., readP_end F b e hl h2 (by omega), h2, h3, h4⟩
  | succ n ih =>
    intro l e h1 h2 h3 h4
    by_cases hr : ∃ k v, RecAt b e k v
    · obtain ⟨k, v, hr⟩ := hr
      have hfit := hr.fit
      obtain ⟨m, m1, _, m3, m4⟩ := set_both F l ⟨k, v⟩ h3 hr.k0 hr.k1 hr.vb hr.vl (by omega) hF
      obtain ⟨l2, e2, r1, r2⟩ := ih m (e + 8 + v.length) (by omega) hfit m3 (by omega)
      exact ⟨l2, e2, .step hr m1 r1, r2⟩
    · exact ⟨l, e, .refl .., readP_none (fun k v h => hr ⟨k, v, h⟩) h2 hb hl hF hFF, h2, h3, h4⟩
theorem norec_255 (h : ∀ i, e ≤ i → i < b.length → b[i]? = some 255) (k : Int) (v : List Int) : ¬ RecAt b e k v := fun hr => by
  have h1 := hr.get (i := v.length + 7) (by omega)
  have hf := hr.fit
  rw [rec_last, h _ (by omega) (by omega)] at h1
  exact absurd (Option.some.inj h1) (by decide)
theorem norec_part (j : Nat) (hj : j < (recB k v).length) (h0 : ∀ i, i < j → b[e + i]? = (recB k v)[i]?) (h1 : ∀ i, e + j ≤ i → i < b.length → b[i]? = some 255) (hv : v.length ≤ 1024) (k' : Int) (v' : List Int) : ¬ RecAt b e k' v' := fun hr => by
  have hf := hr.fit
  have hvl := hr.vl
  rw [recB_len] at hj
  by_cases h2 : 2 ≤ j
  · have a0 := hr.get (i := 0) (by omega)
    have a1 := hr.get (i := 1) (by omega)
    rw [h0 0 (by omega), rec_at0, rec_at0] at a0
    rw [h0 1 (by omega), rec_at1, rec_at1] at a1
    have a0 := Option.some.inj a0
    have a1 := Option.some.inj a1
    have hlen : v.length = v'.length := by omega
    have a7 := hr.get (i := v'.length + 7) (by omega)
    rw [rec_last, h1 _ (by omega) (by omega)] at a7
    exact absurd (Option.some.inj a7) (by decide)
  · have a1 := hr.get (i := 1) (by omega)
    rw [rec_at1, h1 _ (by omega) (by omega)] at a1
    have a1 := Option.some.inj a1
    omega
end
/-- A bank begins with a header. -/
structure Head (b : List Int) (n : Int) : Prop where
  l : 10 ≤ b.length
  eq : sl b 0 10 = headB n
  n0 : 0 ≤ n
  n1 : n < 4294967296
theorem head_at0 (n : Int) : (headB n)[0]? = some 66 := rfl
theorem head_last (n : Int) : (headB n)[9]? = some 0 := by
  have := seal_last ([66, 75] ++ leb 4 n)
  rw [List.length_append, leb_length] at this
  exact this
theorem head_sl (n : Int) : sl (headB n) 2 6 = leb 4 n := by
  have := sl_mid [66, 75] (leb 4 n) (leb 3 (crcs 0 ([66, 75] ++ leb 4 n) : Nat) ++ [0])
  rw [leb_length] at this
  rw [← this]
  unfold headB sealB
  simp only [List.append_assoc]
  rfl
theorem Head.get {b : List Int} {n : Int} (h : Head b n) {i : Nat} (hi : i < 10) : b[i]? = (headB n)[i]? := by
  rw [← h.eq, sl_get _ _ _ _ (by omega), Nat.zero_add]
theorem Head.s2 {b : List Int} {n : Int} (h : Head b n) : sl b 2 6 = leb 4 n := by
  have := sl_sl b 0 10 2 6 (by omega)
  rw [h.eq, head_sl] at this
  exact this.symm
theorem nohead0 {b : List Int} (h : b[0]? = some 255) (n : Int) : ¬ Head b n := fun hh => by
  have := hh.get (i := 0) (by omega)
  rw [h, head_at0] at this
  exact absurd (Option.some.inj this) (by decide)
theorem nohead9 {b : List Int} (h : b[9]? = some 255) (n : Int) : ¬ Head b n := fun hh => by
  have := hh.get (i := 9) (by omega)
  rw [h, head_last] at this
  exact absurd (Option.some.inj this) (by decide)
theorem count_head {F : Nat} {b : List Int} {n : Int} (h : Head b n) (hb : ∀ x ∈ b, Byte x) (hF : 200000 < F) (hFF : F ≤ FF) : flash_count F b = some n := by
  unfold flash_count
  have hl := h.l
  rw [len_nat, if_neg (df (by omega)), show sub b 2 6 = some (sl b 2 6) from sub_sl b 2 6 (by omega) (by omega), Option.bind_some]
  have n0 := h.n0
  have n1 := h.n1
  have e1 : num (leb 4 n) = n := by rw [num_leb, show (256 : Int) ^ 4 = 4294967296 from rfl, Int.emod_eq_of_lt n0 n1]
  rw [value_eq F _ (sl_byte hb _ _) (by rw [h.s2, leb_length]; omega) (by omega), h.s2, e1, Option.bind_some]
  rw [show sub b 0 10 = some (sl b 0 10) from sub_sl b 0 10 (by omega) (by omega)]
  rw [header_eq F n n0 n1 (by omega) hFF, Option.bind_some, Option.bind_some, h.eq, equal_eq F _ _ (by rw [headB_len]; omega) (by omega), Option.bind_some]
  unfold flash_count_j1
  rw [if_neg (by simp)]
theorem count_none {F : Nat} {b : List Int} (h : ∀ n, ¬ Head b n) (hb : ∀ x ∈ b, Byte x) (hF : 200000 < F) (hFF : F ≤ FF) : flash_count F b = some (-1) := by
  obtain ⟨c, c1, _⟩ := count_both F b hb hF hFF
  rw [c1]
  unfold flash_count at c1
  rw [len_nat] at c1
  by_cases hl : 10 ≤ b.length
  · rw [if_neg (df (by omega)), show sub b 2 6 = some (sl b 2 6) from sub_sl b 2 6 (by omega) (by omega), Option.bind_some] at c1
    obtain ⟨n, hn, hn1⟩ := num4 hb hl
    have l2 : (sl b 2 6).length = 4 := sl_len (by omega) (by omega)
    have hw : w64 (n : Int) = (n : Int) := w64_id (by omega) (by omega)
    rw [value_eq F _ (sl_byte hb _ _) (by omega) (by omega), hn, Option.bind_some, show sub b 0 10 = some (sl b 0 10) from sub_sl b 0 10 (by omega) (by omega), header_eq F n (by omega) (by omega) (by omega) hFF, Option.bind_some, Option.bind_some, equal_eq F _ _ (by rw [headB_len]; omega) (by omega), Option.bind_some] at c1
    unfold flash_count_j1 at c1
    by_cases hq : headB (n : Int) = sl b 0 10
    · exact absurd ⟨hl, hq.symm, by omega, by omega⟩ (h n)
    · rw [if_pos (by simp [hq])] at c1
      exact c1.symm
  · rw [if_pos (dt (by omega))] at c1
    exact c1.symm
/-- Records of items in order make these items. -/
theorem set_snoc {F : Nat} {l : List T_api_Item} {x : T_api_Item} (h : Lst (l ++ [x])) (hl : l.length ≤ 100000) (hF : 200000 < F) : flash_set F l x = some (l ++ [x]) := by
  have ha : ∀ y ∈ l, y.Key < x.Key := fun y hy => (List.pairwise_append.1 h.ord).2.2 y hy x (by simp)
  have := set_eq F l [] x ha (fun _ h => by cases h) (by simpa using hl) hF
  rw [List.append_nil] at this
  rw [this]
  unfold setL
  rw [if_neg (h.ok x (by simp)).vn]
  simp [hd]
theorem lst_pre {a b : List T_api_Item} (h : Lst (a ++ b)) : Lst a := ⟨(List.pairwise_append.1 h.ord).1, fun x hx => h.ok x (List.mem_append_left _ hx)⟩
theorem reads_recs {F : Nat} (hF : 200000 < F) : ∀ (m l : List T_api_Item) (p q : List Int), Lst (l ++ m) → (l ++ m).length ≤ 100000 → Reads F (p ++ (recs m ++ q)) l p.length (l ++ m) (p.length + (recs m).length)
  | [], l, p, q, _, _ => by
    rw [List.append_nil]
    exact .refl ..
  | x :: m, l, p, q, h, hn => by
    have e1 : l ++ x :: m = (l ++ [x]) ++ m := by simp
    rw [e1] at h hn ⊢
    have e2 : recs (x :: m) = recB x.Key x.Value ++ recs m := by simp [recs]
    have hx := (h.ok x (by simp))
    have ih := reads_recs hF m (l ++ [x]) (p ++ recB x.Key x.Value) q h hn
    rw [List.length_append, recB_len, List.append_assoc] at ih
    rw [e2, List.length_append, recB_len, List.append_assoc]
    have hr : RecAt (p ++ (recB x.Key x.Value ++ (recs m ++ q))) p.length x.Key x.Value := by
      refine ⟨hx.vl, by simp [recB_len]; omega, ?_, hx.vb, hx.k0, hx.k1⟩
      have := sl_mid p (recB x.Key x.Value) (recs m ++ q)
      rw [recB_len] at this
      rw [show p.length + 8 + x.Value.length = p.length + (x.Value.length + 8) from by omega]
      exact this
    refine .step hr (set_snoc (lst_pre h) (by simp at hn; omega) hF) ?_
    rw [show p.length + (x.Value.length + 8) = p.length + 8 + x.Value.length from by omega] at ih
    rw [show p.length + (x.Value.length + 8 + (recs m).length) = p.length + 8 + x.Value.length + (recs m).length from by omega]
    exact ih
/-- A bank in use. -/
structure Act (F : Nat) (b : List Int) (c : Int) (l : List T_api_Item) (e : Nat) : Prop where
  h : Head b c
  r : Reads F b [] 10 l e
  n : flash_readP F b e = some none
  e1 : e ≤ b.length
  lst : Lst l
  ll : l.length ≤ e
def endOf (b : List Int) (e : Nat) : Int := if ((sl b e b.length).any fun x => x != 255) = true then (b.length : Int) else e
structure Mmy (f : T_api_Flash) (N : Nat) : Prop where
  l1 : f.Banks.1.length = N
  l2 : f.Banks.2.length = N
  n0 : 64 ≤ N
  n1 : N ≤ 65536
  b1 : ∀ x ∈ f.Banks.1, Byte x
  b2 : ∀ x ∈ f.Banks.2, Byte x
inductive Mnt (F : Nat) (f : T_api_Flash) : T_api_Store → Prop where
  | none (h1 : ∀ n, ¬ Head f.Banks.1 n) (h2 : ∀ n, ¬ Head f.Banks.2 n) : Mnt F f ⟨f, 0, 0, f.Banks.1.length, []⟩
  | zero {c : Int} {l : List T_api_Item} {e : Nat} (h1 : Act F f.Banks.1 c l e) (h2 : ∀ d, Head f.Banks.2 d → d ≤ c) : Mnt F f ⟨f, 0, c, endOf f.Banks.1 e, l⟩
  | one {c : Int} {l : List T_api_Item} {e : Nat} (h1 : Act F f.Banks.2 c l e) (h2 : ∀ d, Head f.Banks.1 d → d < c) : Mnt F f ⟨f, 1, c, endOf f.Banks.2 e, l⟩
theorem head_one {F : Nat} {b : List Int} {c d : Int} (h : Head b c) (h2 : Head b d) (hb : ∀ x ∈ b, Byte x) (hF : 200000 < F) (hFF : F ≤ FF) : c = d := by
  have := count_head h hb hF hFF
  rw [count_head h2 hb hF hFF] at this
  exact (Option.some.inj this).symm
theorem act_ex {F : Nat} {b : List Int} (hb : ∀ x ∈ b, Byte x) (hl : b.length ≤ 65536) (hF : 200000 < F) (hFF : F ≤ FF) : (∀ n, ¬ Head b n) ∨ ∃ c l e, Act F b c l e := by
  by_cases h : ∃ n, Head b n
  · obtain ⟨n, h⟩ := h
    obtain ⟨l, e, r1, r2, r3, r4, r5⟩ := reads_ex hb hl hF hFF b.length [] 10 (by omega) h.l lst_nil (by simp)
    exact .inr ⟨n, l, e, h, r1, r2, r3, r4, r5⟩
  · exact .inl fun n hn => h ⟨n, hn⟩
theorem mnt_ex {F : Nat} {f : T_api_Flash} {N : Nat} (hm : Mmy f N) (hF : 200000 < F) (hFF : F ≤ FF) : ∃ s, Mnt F f s := by
  obtain ⟨l1, l2, n0, n1, b1, b2⟩ := hm
  rcases act_ex b1 (by omega) hF hFF with h1 | ⟨c, l, e, h1⟩
  · rcases act_ex b2 (by omega) hF hFF with h2 | ⟨d, m, g, h2⟩
    · exact ⟨_, .none h1 h2⟩
    · exact ⟨_, .one h2 fun d hd => absurd hd (h1 d)⟩
  · rcases act_ex b2 (by omega) hF hFF with h2 | ⟨d, m, g, h2⟩
    · exact ⟨_, .zero h1 fun d hd => absurd hd (h2 d)⟩
    · by_cases hcd : d ≤ c
      · exact ⟨_, .zero h1 fun d' hd => by have := head_one hd h2.h b2 hF hFF; omega⟩
      · exact ⟨_, .one h2 fun d' hd => by have := head_one hd h1.h b1 hF hFF; omega⟩
theorem act_bank {F : Nat} {b : List Int} {c : Int} {l : List T_api_Item} {e : Nat} (h : Act F b c l e) (f : T_api_Flash) (hN : b.length = f.Banks.1.length) (hb : ∀ x ∈ b, Byte x) (hl : b.length ≤ 65536) (hF : 200000 < F) (hFF : F ≤ FF) :
    flash_contents F b = some (l, (e : Int)) ∧ sub b (e : Int) (len b) = some (sl b e b.length) ∧ iter (fun s : Int => flash_Mount_l1 F f (l, (e : Int)) (sl b e b.length) s) F 0 = some (endOf b e) := by
  have h1 := h.e1
  have h2 := h.r.mono
  refine ⟨h.r.run h.n hb hl hF hFF F (by omega), sub_sl b e b.length h1 (Nat.le_refl _), ?_⟩
  rw [tail_loop F f (l, (e : Int)) _ (by rw [sl_len h1 (Nat.le_refl _)]; omega) hF]
  unfold endOf
  rw [len_nat, hN]
theorem mount_of {F : Nat} {f : T_api_Flash} {N : Nat} {s : T_api_Store} (hm : Mmy f N) (h : Mnt F f s) (hF : 200000 < F) (hFF : F ≤ FF) : flash_Mount F f = some (s, 0) := by
  obtain ⟨l1, l2, n0, n1, b1, b2⟩ := hm
  unfold flash_Mount flash_fits
  rw [len_nat, len_nat]
  have q1 : ¬ (((f.Banks.2.length : Int)) != (f.Banks.1.length : Int)) = true := by simp; omega
  have q3 : (!((decide ((f.Banks.1.length : Int) ≥ 64)) && (decide ((f.Banks.1.length : Int) ≤ 65536)))) = false := by simp; omega
  rw [if_neg q1, Option.bind_some, q3, Option.bind_some, if_neg (by decide), copied_id F f (by omega) (by omega) (by omega), Option.bind_some]
  cases h with
  | none h1 h2 =>
    rw [count_none h1 b1 hF hFF, count_none h2 b2 hF hFF, Option.bind_some, Option.bind_some]
    unfold flash_Mount_j1
    rw [if_neg (by decide)]
    unfold flash_Mount_j2
    rw [if_pos (show ((0 : Int) == 0) = true from rfl), if_pos (by decide)]
    rfl
  | @zero c l e h1 h2 =>
    have hc0 := h1.h.n0
    have hd : ∃ d, flash_count F f.Banks.2 = some d ∧ d ≤ c := by
      by_cases hh : ∃ n, Head f.Banks.2 n
      · obtain ⟨n, hh⟩ := hh
        exact ⟨n, count_head hh b2 hF hFF, h2 n hh⟩
      · exact ⟨-1, count_none (fun n hn => hh ⟨n, hn⟩) b2 hF hFF, by omega⟩
    obtain ⟨d, hd1, hd2⟩ := hd
    rw [count_head h1.h b1 hF hFF, hd1, Option.bind_some, Option.bind_some]
    obtain ⟨a1, a2, a3⟩ := act_bank h1 f rfl b1 (by omega) hF hFF
    unfold flash_Mount_j1
    rw [if_neg (df (by omega))]
    unfold flash_Mount_j2 flash_Mount_j3
    rw [if_pos (by decide), if_neg (df (by omega)), if_pos (by decide)]
    rw [a1, Option.bind_some]
    simp only
    rw [a2, Option.bind_some, a3, Option.bind_some]
    rfl
  | @one c l e h1 h2 =>
    have hc0 := h1.h.n0
    have hd : ∃ d, flash_count F f.Banks.1 = some d ∧ d < c := by
      by_cases hh : ∃ n, Head f.Banks.1 n
      · obtain ⟨n, hh⟩ := hh
        exact ⟨n, count_head hh b1 hF hFF, h2 n hh⟩
      · exact ⟨-1, count_none (fun n hn => hh ⟨n, hn⟩) b1 hF hFF, by omega⟩
    obtain ⟨d, hd1, hd2⟩ := hd
    rw [count_head h1.h b2 hF hFF, hd1, Option.bind_some, Option.bind_some]
    obtain ⟨a1, a2, a3⟩ := act_bank h1 f (by omega) b2 (by omega) hF hFF
    unfold flash_Mount_j1
    rw [if_pos (dt (by omega))]
    unfold flash_Mount_j2 flash_Mount_j3
    rw [if_neg (by decide), if_pos (by decide), if_neg (df (by omega)), if_neg (by decide), if_pos (by decide)]
    rw [a1, Option.bind_some]
    simp only
    rw [a2, Option.bind_some, m_l2, a3, Option.bind_some]
    rfl
theorem endOf_cases {b : List Int} {e : Nat} (he : e ≤ b.length) : endOf b e = b.length ∨ (endOf b e = e ∧ b = b.take e ++ List.replicate (b.length - e) 255) := by
  unfold endOf
  cases h : (sl b e b.length).any fun x => x != 255
  · right
    refine ⟨by simp, ?_⟩
    have h2 := rep_any (sl b e b.length)
    rw [h, sl_len he (Nat.le_refl _)] at h2
    have h3 : sl b e b.length = List.replicate (b.length - e) 255 := by simpa using h2
    unfold sl at h3
    rw [List.take_length] at h3
    rw [← h3, List.take_append_drop]
  · left
    simp
theorem mnt_mtd {F : Nat} {f : T_api_Flash} {N : Nat} {s : T_api_Store} (hm : Mmy f N) (h : Mnt F f s) : Mtd f s := by
  obtain ⟨l1, l2, n0, n1, b1, b2⟩ := hm
  have hsz : f.Banks.1.length = f.Banks.2.length ∧ 64 ≤ f.Banks.1.length ∧ f.Banks.1.length ≤ 65536 := by omega
  cases h with
  | none h1 h2 => exact ⟨rfl, .inl rfl, by simp only; omega, by simp only; omega, by simp, by simp, lst_nil, by simp, hsz⟩
  | @zero c l e h1 h2 =>
    have := h1.e1
    have := h1.ll
    have hE : 0 ≤ endOf f.Banks.1 e ∧ endOf f.Banks.1 e ≤ f.Banks.1.length := by unfold endOf; split <;> omega
    exact ⟨rfl, .inl rfl, hE.1, hE.2, h1.h.n0, h1.h.n1, h1.lst, by simp only; omega, hsz⟩
  | @one c l e h1 h2 =>
    have := h1.e1
    have := h1.ll
    have hE : 0 ≤ endOf f.Banks.2 e ∧ endOf f.Banks.2 e ≤ f.Banks.1.length := by unfold endOf; split <;> omega
    exact ⟨rfl, .inr rfl, hE.1, hE.2, h1.h.n0, h1.h.n1, h1.lst, by simp only; omega, hsz⟩
/-- A record, or a part of one, behind the others. -/
theorem act_app {F : Nat} {b : List Int} {c : Int} {l : List T_api_Item} {e : Nat} (h : Act F b c l e) (hb : ∀ x ∈ b, Byte x) (hl : b.length ≤ 65536) (hF : 200000 < F) (hFF : F ≤ FF)
    {q : Nat} (hall : b = b.take e ++ List.replicate q 255) {k : Int} {v : List Int} (k0 : 0 ≤ k) (k1 : k < 65536) (vb : ∀ x ∈ v, Byte x) (vl : v.length ≤ 1024) (hq : (recB k v).length ≤ q) {m : List T_api_Item} (hs : flash_set F l ⟨k, v⟩ = some m) (hm : Lst m) (hml : m.length ≤ l.length + 1) (j : Nat) (hj : j ≤ (recB k v).length) :
    ∃ l' e', Act F (b.take e ++ ((recB k v).take j ++ List.replicate (q - j) 255)) c l' e' ∧ (j < (recB k v).length → l' = l) ∧ (j = (recB k v).length → l' = m) := by
  have he := h.e1
  have h10 := h.r.mono
  have hll := h.ll
  have hrl := recB_len k v
  have hte : (b.take e).length = e := by rw [List.length_take]; omega
  have hjl : ((recB k v).take j).length = j := by rw [List.length_take]; omega
  have hbq : e + q = b.length := by
    have := congrArg List.length hall
    rw [List.length_append, hte, List.length_replicate] at this
    exact this.symm
  have hlen : (b.take e ++ ((recB k v).take j ++ List.replicate (q - j) 255)).length = b.length := by
    rw [List.length_append, List.length_append, hte, hjl, List.length_replicate]
    omega
  have hby : ∀ x ∈ b.take e ++ ((recB k v).take j ++ List.replicate (q - j) 255), Byte x := byte_app (fun x hx => hb x (List.mem_of_mem_take hx)) (byte_app (fun x hx => seal_byte (rec_in _ vb) x (List.mem_of_mem_take hx)) (rep_byte _))
  have htk : ∀ z : List Int, b.take e = (b.take e ++ z).take e := fun z => by
    have := List.take_left (l₁ := b.take e) (l₂ := z)
    rw [hte] at this
    exact this.symm
  have hhead : Head (b.take e ++ ((recB k v).take j ++ List.replicate (q - j) 255)) c := ⟨by omega, by rw [← sl_take (htk _) h10]; exact h.h.eq, h.h.n0, h.h.n1⟩
  have hget : ∀ i, j ≤ i → e + i < b.length → (b.take e ++ ((recB k v).take j ++ List.replicate (q - j) 255))[e + i]? = some 255 := fun i hi hi2 => by
    rw [List.getElem?_append_right (by omega), hte, List.getElem?_append_right (by omega), hjl, List.getElem?_replicate, if_pos]
    rw [List.length_append, List.length_append, hte, hjl, List.length_replicate] at hlen
    omega
  by_cases hjq : j = (recB k v).length
  · refine ⟨m, e + 8 + v.length, ⟨hhead, ?_, ?_, by omega, hm, by omega⟩, fun h => by omega, fun _ => rfl⟩
    · refine (h.r.pre (htk _) (by omega)).trans (.step (k := k) (v := v) ⟨vl, by omega, ?_, vb, k0, k1⟩ hs (.refl ..))
      have := sl_mid (b.take e) (recB k v) (List.replicate (q - j) 255)
      rw [hte, hrl] at this
      rw [hjq, List.take_length, show e + 8 + v.length = e + (v.length + 8) from by omega]
      rw [hjq] at this
      exact this
    · refine readP_none (norec_255 fun i hi hi2 => ?_) (by omega) hby (by omega) hF hFF
      obtain ⟨i, rfl⟩ : ∃ z, i = e + z := ⟨i - e, by omega⟩
      exact hget i (by omega) (by omega)
  · refine ⟨l, e, ⟨hhead, h.r.pre (htk _) (by omega), ?_, by omega, h.lst, h.ll⟩, fun _ => rfl, fun h => absurd h hjq⟩
    refine readP_none (norec_part (k := k) (v := v) j (by omega) (fun i hi => ?_) (fun i hi hi2 => ?_) vl) (by omega) hby (by omega) hF hFF
    · rw [List.getElem?_append_right (by omega), hte, List.getElem?_append_left (by omega), List.getElem?_take, if_pos (by omega), show e + i - e = i from by omega]
    · obtain ⟨i, rfl⟩ : ∃ z, i = e + z := ⟨i - e, by omega⟩
      exact hget i (by omega) (by omega)
/-- A bank that is written anew. -/
theorem act_new {F : Nat} (c : Int) (c0 : 0 ≤ c) (c1 : c < 4294967296) {m : List T_api_Item} (hm : Lst m) (q : Nat) (hl : 10 + (recs m).length + q ≤ 65536) (hml : m.length ≤ 100000) (hF : 200000 < F) (hFF : F ≤ FF) : Act F (headB c ++ (recs m ++ List.replicate q 255)) c m (10 + (recs m).length) := by
  have hh := headB_len c
  have hlen : (headB c ++ (recs m ++ List.replicate q 255)).length = 10 + (recs m).length + q := by
    rw [List.length_append, List.length_append, hh, List.length_replicate]
    omega
  have hby : ∀ x ∈ headB c ++ (recs m ++ List.replicate q 255), Byte x := byte_app (seal_byte (head_in c)) (byte_app (recs_byte m hm.ok) (rep_byte _))
  have hr := reads_recs hF m [] (headB c) (List.replicate q 255) (by simpa using hm) (by simpa using hml)
  rw [hh, List.nil_append] at hr
  refine ⟨⟨by omega, ?_, c0, c1⟩, hr, ?_, by omega, hm, ?_⟩
  · have := sl_mid [] (headB c) (recs m ++ List.replicate q 255)
    rw [hh] at this
    exact this
  · refine readP_none (norec_255 fun i hi hi2 => ?_) (by omega) hby (by omega) hF hFF
    rw [List.getElem?_append_right (by omega), List.getElem?_append_right (by omega), List.getElem?_replicate, if_pos (by omega)]
  · have : ∀ l : List T_api_Item, l.length ≤ (recs l).length := fun l => by
      induction l with
      | nil => simp
      | cons x l ih =>
        have e2 : recs (x :: l) = recB x.Key x.Value ++ recs l := by simp [recs]
        rw [e2, List.length_append, recB_len, List.length_cons]
        omega
    have := this m
    omega
theorem iand255 {x : Int} (h : Byte x) : iand .u8 255 x = x := by
  have h1 : ∀ y : Fin 256, iand .u8 255 (y.val : Int) = (y.val : Int) := by decide +kernel
  obtain ⟨a, b⟩ := h
  have := h1 ⟨x.toNat, by omega⟩
  simp only at this
  rwa [Int.toNat_of_nonneg a] at this
theorem erase_eq (F : Nat) (w : T_api_Write) (k : Nat) (b : List Int) (he : w.Erase = true) (hk : k ≤ b.length) (hb : b.length ≤ 65536) (hF : 200000 < F) : iter (fun s : List Int × Int => flash_Apply_l1 F w (k : Int) s.1 s.2) F (b, 0) = some (List.replicate k 255 ++ b.drop k) := by
  have := iter_count (body := fun s : List Int × Int => flash_Apply_l1 F w (k : Int) s.1 s.2) (fun i => (List.replicate i (255 : Int) ++ b.drop i, (i : Int))) k (List.replicate k 255 ++ b.drop k) (by
    intro i hi
    have hd : b.drop i = b[i] :: b.drop (i + 1) := List.drop_eq_getElem_cons (by omega)
    have hlen : (List.replicate i (255 : Int) ++ b.drop i).length = b.length := by simp; omega
    have hx := List.getElem?_eq_getElem (l := List.replicate i (255 : Int) ++ b.drop i) (i := i) (by omega)
    show flash_Apply_l1 F w (k : Int) (List.replicate i 255 ++ b.drop i) (i : Int) = _
    unfold flash_Apply_l1 flash_Apply_j4
    rw [if_pos (dt (by omega)), he, if_pos rfl, idx_nat, hx, Option.bind_some, upd_nat (by omega), Option.bind_some, w64_nat i (by omega), List.set_append_right _ _ (by simp), List.length_replicate, Nat.sub_self, hd, List.set_cons_zero, List.replicate_succ', List.append_assoc]
    rfl) (by
    show flash_Apply_l1 F w (k : Int) _ (k : Int) = _
    unfold flash_Apply_l1
    rw [if_neg (df (by omega))]) F 0 (by omega) (by omega)
  exact this
theorem write_eq (F : Nat) (w : T_api_Write) (k : Nat) (p r : List Int) (he : w.Erase = false) (ho : w.Offset = p.length) (hk : k ≤ w.Bytes.length) (hw : ∀ x ∈ w.Bytes, Byte x) (hb : p.length + k + r.length ≤ 65536) (hF : 200000 < F) : iter (fun s : List Int × Int => flash_Apply_l1 F w (k : Int) s.1 s.2) F (p ++ (List.replicate k 255 ++ r), 0) = some (p ++ (w.Bytes.take k ++ r)) := by
  have := iter_count (body := fun s : List Int × Int => flash_Apply_l1 F w (k : Int) s.1 s.2) (fun i => (p ++ (w.Bytes.take i ++ (List.replicate (k - i) (255 : Int) ++ r)), (i : Int))) k (p ++ (w.Bytes.take k ++ r)) (by
    intro i hi
    have hx : w.Bytes[i]? = some w.Bytes[i] := List.getElem?_eq_getElem (by omega)
    have hby := hw _ (List.getElem_mem (l := w.Bytes) (n := i) (by omega))
    have htl : (w.Bytes.take i).length = i := by rw [List.length_take]; omega
    have hr : List.replicate (k - i) (255 : Int) = 255 :: List.replicate (k - (i + 1)) 255 := by rw [show k - i = (k - (i + 1)) + 1 from by omega, List.replicate_succ]
    rw [List.take_add_one, hx, Option.toList_some, hr]
    generalize w.Bytes[i] = x at *
    have hlen : (p ++ (w.Bytes.take i ++ (255 :: List.replicate (k - (i + 1)) (255 : Int) ++ r))).length = p.length + k + r.length := by simp [htl]; omega
    have hg : (p ++ (w.Bytes.take i ++ (255 :: List.replicate (k - (i + 1)) (255 : Int) ++ r)))[p.length + i]? = some 255 := by
      rw [List.getElem?_append_right (by omega), List.getElem?_append_right (by omega), htl, show p.length + i - p.length - i = 0 from by omega]
      rfl
    show flash_Apply_l1 F w (k : Int) (p ++ (w.Bytes.take i ++ (255 :: List.replicate (k - (i + 1)) 255 ++ r))) (i : Int) = _
    have hq : w64 (w.Offset + (i : Int)) = ((p.length + i : Nat) : Int) := by rw [ho, w64_id (by omega) (by omega)]; omega
    unfold flash_Apply_l1 flash_Apply_j4
    rw [if_pos (dt (by omega)), he, if_neg (by decide), hq, if_pos (by rw [len_nat, hlen, ho]; simp; omega), idx_nat, hx, Option.bind_some, idx_nat, hg, Option.bind_some, Option.bind_some, Option.bind_some, upd_nat (by omega), Option.bind_some, w64_nat i (by omega), iand255 hby, List.set_append_right _ _ (by omega), List.set_append_right _ _ (by omega), htl, show p.length + i - p.length - i = 0 from by omega, List.cons_append, List.set_cons_zero]
    simp only [List.append_assoc, List.cons_append, List.nil_append]) (by
    show flash_Apply_l1 F w (k : Int) _ (k : Int) = _
    unfold flash_Apply_l1
    rw [if_neg (df (by omega)), Nat.sub_self]
    rfl) F 0 (by omega) (by omega)
  simpa using this
/-- One of the two banks. -/
def rB (f : T_api_Flash) (i : Int) : List Int := if i = 0 then f.Banks.1 else f.Banks.2
def wB (f : T_api_Flash) (i : Int) (b : List Int) : T_api_Flash := if i = 0 then ⟨(b, f.Banks.2)⟩ else ⟨(f.Banks.1, b)⟩
theorem rB_wB (f : T_api_Flash) (i : Int) (b : List Int) : rB (wB f i b) i = b := by
  unfold rB wB
  by_cases h : i = 0
  · rw [if_pos h, if_pos h]
  · rw [if_neg h, if_neg h]
theorem wB_wB (f : T_api_Flash) (i : Int) (a b : List Int) : wB (wB f i a) i b = wB f i b := by
  unfold wB
  by_cases h : i = 0
  · rw [if_pos h, if_pos h, if_pos h]
  · rw [if_neg h, if_neg h, if_neg h]
theorem wB_rB (f : T_api_Flash) (i : Int) : wB f i (rB f i) = f := by
  unfold wB rB
  by_cases h : i = 0
  · rw [if_pos h, if_pos h]
  · rw [if_neg h, if_neg h]
theorem Mmy.rl {f : T_api_Flash} {N : Nat} (h : Mmy f N) (i : Int) : (rB f i).length = N := by
  unfold rB
  split
  · exact h.l1
  · exact h.l2
theorem Mmy.rb {f : T_api_Flash} {N : Nat} (h : Mmy f N) (i : Int) : ∀ x ∈ rB f i, Byte x := by
  unfold rB
  split
  · exact h.b1
  · exact h.b2
theorem Mmy.w {f : T_api_Flash} {N : Nat} (h : Mmy f N) (i : Int) {b : List Int} (hl : b.length = N) (hb : ∀ x ∈ b, Byte x) : Mmy (wB f i b) N := by
  unfold wB
  split
  · exact ⟨hl, h.l2, h.n0, h.n1, hb, h.b2⟩
  · exact ⟨h.l1, hl, h.n0, h.n1, h.b1, hb⟩
theorem apply_bank (F : Nat) {f : T_api_Flash} {N : Nat} (hm : Mmy f N) (w : T_api_Write) (n : Int) (hbk : w.Bank = 0 ∨ w.Bank = 1) (o : List Int) (all : Int) (hall : (if w.Erase = true then (N : Int) else w.Bytes.length) = all) (h : iter (fun s : List Int × Int => flash_Apply_l1 F w (eff n all) s.1 s.2) F (rB f w.Bank, 0) = some o) (hF : 200000 < F) : flash_Apply F f w n = some (wB f w.Bank o) := by
  have hl1 := hm.l1
  have hl2 := hm.l2
  have hn1 := hm.n1
  unfold flash_Apply
  rw [copied_id F f (by omega) (by omega) (by omega), Option.bind_some]
  have q1 : ¬ ((w.Bank != 0) && (w.Bank != 1)) = true := by simp; omega
  rw [if_neg q1]
  unfold rB at h
  unfold wB
  rcases hbk with h0 | h0
  · rw [if_pos h0] at h
    rw [if_pos h0, if_pos (show (w.Bank == 0) = true by simp [h0])]
    cases he : w.Erase
    · rw [he, if_neg (by decide)] at hall
      rw [if_neg (by decide), j1_eff]
      unfold flash_Apply_j2
      rw [len_nat, hall, h]
      rfl
    · rw [he, if_pos rfl] at hall
      rw [if_pos rfl, j1_eff]
      unfold flash_Apply_j2
      rw [len_nat, hl1, hall, h]
      rfl
  · rw [if_neg (by omega)] at h
    rw [if_neg (show ¬ (w.Bank == 0) = true by simp [h0]), if_pos (show (w.Bank == 1) = true by simp [h0]), if_neg (show ¬ w.Bank = 0 by omega)]
    cases he : w.Erase
    · rw [he, if_neg (by decide)] at hall
      rw [if_neg (by decide), j5_eff]
      unfold flash_Apply_j6
      rw [flash_l2, len_nat, hall, h]
      rfl
    · rw [he, if_pos rfl] at hall
      rw [if_pos rfl, j5_eff]
      unfold flash_Apply_j6
      rw [flash_l2, len_nat, hl2, hall, h]
      rfl
theorem eff_erase (F : Nat) {f : T_api_Flash} {N : Nat} (hm : Mmy f N) (i n : Int) (hi : i = 0 ∨ i = 1) (k : Nat) (hk : eff n N = (k : Int)) (hkN : k ≤ N) (hF : 200000 < F) : flash_Apply F f ⟨i, true, 0, []⟩ n = some (wB f i (List.replicate k 255 ++ (rB f i).drop k)) := by
  refine apply_bank F hm _ n hi _ N (if_pos rfl) ?_ hF
  rw [hk]
  exact erase_eq F _ k _ rfl (by rw [hm.rl]; exact hkN) (by rw [hm.rl]; exact hm.n1) hF
theorem eff_write (F : Nat) {f : T_api_Flash} {N : Nat} (hm : Mmy f N) (i n off : Int) (B : List Int) (hi : i = 0 ∨ i = 1) (k : Nat) (p r : List Int) (hk : eff n B.length = (k : Int)) (hkB : k ≤ B.length) (ho : off = p.length) (hB : ∀ x ∈ B, Byte x) (hp : rB f i = p ++ (List.replicate k 255 ++ r)) (hF : 200000 < F) : flash_Apply F f ⟨i, false, off, B⟩ n = some (wB f i (p ++ (B.take k ++ r))) := by
  refine apply_bank F hm _ n hi _ B.length (if_neg (show ¬ (false = true) by decide)) ?_ hF
  rw [hk]
  show iter _ F (rB f i, 0) = _
  have hl := hm.rl i
  have hn1 := hm.n1
  rw [hp] at hl ⊢
  simp only [List.length_append, List.length_replicate] at hl
  exact write_eq F ⟨i, false, off, B⟩ k p r rfl ho hkB hB (by omega) hF
/-- The other bank is written. -/
theorem mnt_keep {F : Nat} {f : T_api_Flash} {N : Nat} {s : T_api_Store} (hm : Mmy f N) (h : Mnt F f s) {b : List Int} (hb : ∀ n, ¬ Head b n) (hl : b.length = N) : ∃ t, Mnt F (wB f (1 - s.Bank) b) t ∧ t.Items = s.Items := by
  cases h with
  | none h1 h2 => exact ⟨_, .none h1 hb, rfl⟩
  | zero h1 h2 => exact ⟨_, .zero h1 fun d hd => absurd hd (hb d), rfl⟩
  | one h1 h2 => exact ⟨_, .one h1 fun d hd => absurd hd (hb d), rfl⟩
theorem mnt_new {F : Nat} {f : T_api_Flash} {N : Nat} {s : T_api_Store} (hm : Mmy f N) (h : Mnt F f s) {b : List Int} {m : List T_api_Item} {e : Nat} (hb : Act F b (s.Count + 1) m e) (hF : 200000 < F) (hFF : F ≤ FF) : ∃ t, Mnt F (wB f (1 - s.Bank) b) t ∧ t.Items = m := by
  cases h with
  | none h1 h2 => exact ⟨_, .one hb fun d hd => absurd hd (h1 d), rfl⟩
  | zero h1 h2 =>
    refine ⟨_, .one hb fun d hd => ?_, rfl⟩
    have := head_one hd h1.h hm.b1 hF hFF
    simp only
    omega
  | one h1 h2 =>
    refine ⟨_, .zero hb fun d hd => ?_, rfl⟩
    have := head_one hd h1.h hm.b2 hF hFF
    simp only
    omega
/-- The bank in use, where something can be appended. -/
theorem mnt_free {F : Nat} {f : T_api_Flash} {N : Nat} {s : T_api_Store} (hm : Mmy f N) (h : Mnt F f s) (hfree : 0 < (N : Int) - s.End) : ∃ c e, Act F (rB f s.Bank) c s.Items e ∧ s.End = (e : Int) ∧ rB f s.Bank = (rB f s.Bank).take e ++ List.replicate (N - e) 255 ∧ (∀ b' l' e', Act F b' c l' e' → ∃ t, Mnt F (wB f s.Bank b') t ∧ t.Items = l') := by
  have hl1 := hm.l1
  have hl2 := hm.l2
  cases h with
  | none h1 h2 => simp only at hfree; omega
  | @zero c l e h1 h2 =>
    simp only at hfree
    rcases endOf_cases h1.e1 with h3 | ⟨h3, h4⟩
    · omega
    · rw [hl1] at h4
      exact ⟨c, e, h1, h3, h4, fun b' l' e' ha => ⟨_, .zero ha h2, rfl⟩⟩
  | @one c l e h1 h2 =>
    simp only at hfree
    rcases endOf_cases h1.e1 with h3 | ⟨h3, h4⟩
    · omega
    · rw [hl2] at h4
      exact ⟨c, e, h1, h3, h4, fun b' l' e' ha => ⟨_, .one ha h2, rfl⟩⟩
theorem eff_min {n : Int} {all : Nat} (h : 0 ≤ n) : eff n all = ((min n.toNat all : Nat) : Int) := by
  unfold eff
  split <;> omega
theorem app_end {F : Nat} {f : T_api_Flash} {N : Nat} {s : T_api_Store} (hm : Mmy f N) (h : Mnt F f s) {k : Int} (k0 : 0 ≤ k) (k1 : k < 65536) {v : List Int} (vb : ∀ x ∈ v, Byte x) (hv : v.length ≤ 1024) (hr : ((recB k v).length : Int) ≤ N - s.End) {m : List T_api_Item} (hs : flash_set F s.Items ⟨k, v⟩ = some m) (hml : Lst m) (hmn : m.length ≤ s.Items.length + 1) (n : Int) (j : Nat) (hn : eff n (recB k v).length = (j : Int)) (hj : j ≤ (recB k v).length) (hF : 200000 < F) (hFF : F ≤ FF) :
    ∃ f' t, flash_Apply F f ⟨s.Bank, false, s.End, recB k v⟩ n = some f' ∧ Mmy f' N ∧ Mnt F f' t ∧ (j < (recB k v).length → t.Items = s.Items) ∧ (j = (recB k v).length → t.Items = m) := by
  have hlen := recB_len k v
  have hbk := (mnt_mtd hm h).bk
  have hmn1 := hm.n1
  obtain ⟨c, e, a1, a2, a3, a4⟩ := mnt_free hm h (by omega)
  have hae := a1.e1
  have hrl := hm.rl s.Bank
  have hte : ((rB f s.Bank).take e).length = e := by rw [List.length_take]; omega
  obtain ⟨l', e', b1, b2, b3⟩ := act_app a1 (hm.rb _) (by omega) hF hFF a3 k0 k1 vb hv (by omega) hs hml hmn j hj
  obtain ⟨t, t1, t2⟩ := a4 _ _ _ b1
  have hby : ∀ x ∈ recB k v, Byte x := seal_byte (rec_in _ vb)
  have hw := eff_write F hm s.Bank n s.End (recB k v) hbk j ((rB f s.Bank).take e) (List.replicate (N - e - j) 255) hn hj (by omega) hby (by
    rw [List.replicate_append_replicate, show j + (N - e - j) = N - e from by omega]
    exact a3) hF
  refine ⟨_, t, hw, hm.w _ ?_ ?_, t1, fun hq => t2.trans (b2 hq), fun hq => t2.trans (b3 hq)⟩
  · simp only [List.length_append, hte, List.length_take, List.length_replicate]
    omega
  · exact byte_app (fun x hx => hm.rb _ x (List.mem_of_mem_take hx)) (byte_app (fun x hx => hby x (List.mem_of_mem_take hx)) (rep_byte _))
/-- Setting a value that is there changes nothing. -/
theorem setI_same {F : Nat} {l : List T_api_Item} (h : Lst l) {k : Int} {v : List Int} (hs : same l k v = true) (hl : l.length ≤ 100000) (hF : 200000 < F) : flash_set F l ⟨k, v⟩ = some l := by
  obtain ⟨a, b, rfl, ha, hb⟩ := split_at k l h.ord
  rw [set_eq F a b ⟨k, v⟩ ha hb hl hF]
  unfold setL
  unfold same at hs
  have hna : a.find? (fun x => x.Key == k) = none := List.find?_eq_none.2 fun x hx => by have := ha x hx; simp; omega
  rw [List.find?_append, hna, Option.none_or] at hs
  cases b with
  | nil =>
    have hv : v = [] := by simpa using hs
    simp [hv, hd]
  | cons y b =>
    by_cases hk : y.Key = k
    · have hq : (y.Key == k) = true := by simp [hk]
      rw [List.find?_cons, hq] at hs
      have hv : y.Value = v := by simpa using hs
      have hvn := (h.ok y (by simp)).vn
      have hy : (⟨k, v⟩ : T_api_Item) = y := by
        subst hk hv
        rfl
      rw [hy, if_neg hvn, if_pos (by simp [hd])]
      simp
    · have hq : (y.Key == k) = false := by simp [hk]
      have hbb : b.find? (fun x => x.Key == k) = none := List.find?_eq_none.2 fun x hx => by
        have h1 := (List.pairwise_cons.1 (List.pairwise_append.1 h.ord).2.1).1 x hx
        have h2 := hb y (by simp)
        simp
        omega
      rw [List.find?_cons, hq, hbb] at hs
      have hv : v = [] := by simpa using hs
      simp [hv, hd, hk]
theorem nohead_rep {k : Nat} (hk : 0 < k) (r : List Int) (n : Int) : ¬ Head (List.replicate k 255 ++ r) n := by
  obtain ⟨k, rfl⟩ : ∃ z, k = z + 1 := ⟨k - 1, by omega⟩
  exact nohead0 (by rw [List.replicate_succ]; rfl) n
theorem blank_mem (F : Nat) (N : Nat) (h0 : 64 ≤ N) (h1 : N ≤ 4096) (hF : 200000 < F) : flash_Blank F N = some (⟨(List.replicate N 255, List.replicate N 255)⟩, 0) := by
  have key : flash_erased F (N : Int) = some (List.replicate N 255) := by
    unfold flash_erased
    rw [mk_small (by omega) (by decide), Option.bind_some]
    have h : iter (fun s : List Int × Int => flash_erased_l1 F (List.replicate N 0) s.1 s.2) F (List.replicate N 0, 0) = some (List.replicate N 255) := iter_count (body := fun s : List Int × Int => flash_erased_l1 F (List.replicate N 0) s.1 s.2) (fun i => (List.replicate i 255 ++ List.replicate (N - i) 0, (i : Int))) N (List.replicate N 255) (by
      intro i hi
      show flash_erased_l1 F (List.replicate N 0) (List.replicate i 255 ++ List.replicate (N - i) 0) (i : Int) = _
      unfold flash_erased_l1
      have hx := List.getElem?_eq_getElem (l := List.replicate i (255 : Int) ++ List.replicate (N - i) 0) (i := i) (by simp; omega)
      have hlen : (List.replicate i (255 : Int) ++ List.replicate (N - i) 0).length = N := by simp; omega
      rw [if_pos (dt (by rw [len_nat, List.length_replicate]; omega)), idx_nat, hx, Option.bind_some, upd_nat (by omega), Option.bind_some, set_rep N i hi, w64_nat i (by omega)]) (by
      show flash_erased_l1 F _ _ ((N : Nat) : Int) = _
      unfold flash_erased_l1
      rw [if_neg (df (by rw [len_nat]; simp)), Nat.sub_self, List.replicate_zero, List.append_nil]) F 0 (by omega) (by omega)
    rw [h]
    rfl
  unfold flash_Blank flash_fits
  have q3 : (!((decide ((N : Int) ≥ 64)) && (decide ((N : Int) ≤ 65536)))) = false := by simp; omega
  rw [Option.bind_some, q3, if_neg (by decide), key, Option.bind_some, Option.bind_some]
theorem put_next {F : Nat} {ws : List T_api_Write} {e : Int} {c c' : T_api_Flash} {i n : Nat} {w : T_api_Write} (hx : ws[i]? = some w) (ha : flash_Apply F c w (-1) = some c') (hi : i ≤ 100) : iter (fun s : T_api_Flash × Int => flash_Put_l1 F (ws, e) s.1 s.2) (n + 1) (c, (i : Int)) = iter (fun s : T_api_Flash × Int => flash_Put_l1 F (ws, e) s.1 s.2) n (c', ((i + 1 : Nat) : Int)) := by
  have hin : i < ws.length := (List.getElem?_eq_some_iff.1 hx).1
  refine iter_step ?_
  show flash_Put_l1 F (ws, e) c (i : Int) = _
  unfold flash_Put_l1
  rw [if_pos (dt (by rw [len_nat]; simp only; omega)), idx_nat]
  simp only
  rw [hx, Option.bind_some, ha, Option.bind_some, w64_nat i (by omega)]
theorem put_stop {F : Nat} {ws : List T_api_Write} {e : Int} {c : T_api_Flash} {n : Nat} : iter (fun s : T_api_Flash × Int => flash_Put_l1 F (ws, e) s.1 s.2) (n + 1) (c, (ws.length : Int)) = some c := by
  refine iter_stop ?_
  show flash_Put_l1 F (ws, e) c (ws.length : Int) = _
  unfold flash_Put_l1
  rw [if_neg (df (by rw [len_nat]; simp))]
theorem eff_all (all : Nat) : eff (-1) all = (all : Int) := by
  unfold eff
  rw [if_pos (.inl (by decide))]
theorem put_fl {F : Nat} {f : T_api_Flash} {N : Nat} {s : T_api_Store} (hm : Mmy f N) (h : Mnt F f s) {k : Int} (k0 : 0 ≤ k) (k1 : k < 65536) {v : List Int} (vb : ∀ x ∈ v, Byte x) (hF : 200000 < F) (hFF : F ≤ FF) :
    ∃ t e, flash_Put F s k v = some (t, e) ∧ ((e = 0 ∧ ∃ m f', wirelessref39_Set F s.Items k v = some m ∧ Mmy f' N ∧ Mnt F f' t ∧ t.Items = m) ∨ ((e = 4 ∨ e = 8) ∧ t = s)) := by
  have hmt := mnt_mtd hm h
  have hbk := hmt.bk
  have hil := hmt.il
  have hmn0 := hm.n0
  have hmn1 := hm.n1
  have hl1 := hm.l1
  have hl2 := hm.l2
  obtain ⟨m, ws, e, p1, p2, p3, p4, p5⟩ := plan_both F f s hmt (by omega) k k0 k1 v vb hF hFF
  obtain ⟨hw, hn, he, hee⟩ := plan_ok f hmt (by omega) p4
  unfold flash_Put
  rw [p2, Option.bind_some]
  simp only
  by_cases h0 : e = 0
  · subst h0
    have hv : v.length ≤ 1024 := by cases p4 <;> assumption
    obtain ⟨q1, q2⟩ := p5 hv
    obtain ⟨m', m1, m2, _, _⟩ := set_both F s.Items ⟨k, v⟩ hmt.it k0 k1 vb hv (by omega) hF
    have p1 := p1 hv
    simp only at m2
    rw [p1] at m2
    obtain rfl := Option.some.inj m2
    obtain ⟨F', hF'⟩ : ∃ F', F = F' + 1 + 1 + 1 + 1 := ⟨F - 4, by omega⟩
    cases p4 with
    | same hsm _ =>
      rw [setI_same hmt.it hsm (by omega) hF] at m1
      have hs := Option.some.inj m1
      rw [if_pos (by decide), kept_id F f s hmt (by omega) (by omega) hF, Option.bind_some]
      exact ⟨s, 0, rfl, .inl ⟨rfl, m, f, p1, hm, h, hs⟩⟩
    | app _ hr =>
      rw [hmt.fl, hl1] at hr
      rw [if_neg (by simp [len]), hmt.fl]
      obtain ⟨f', t, a1, a2, a3, a4, a5⟩ := app_end hm h k0 k1 vb hv hr m1 q1 q2 (-1) (recB k v).length (eff_all _) (Nat.le_refl _) hF hFF
      have h1 := put_next (F := F) (ws := [⟨s.Bank, false, s.End, recB k v⟩]) (e := 0) (c := f) (i := 0) (n := F' + 1 + 1 + 1) rfl a1 (by omega)
      have h2 := put_stop (F := F) (ws := [⟨s.Bank, false, s.End, recB k v⟩]) (e := 0) (c := f') (n := F' + 1 + 1)
      have h3 := h1.trans h2
      rw [← hF'] at h3
      have h6 : iter (fun q : T_api_Flash × Int => flash_Put_l1 F ([⟨s.Bank, false, s.End, recB k v⟩], 0) q.1 q.2) F (f, 0) = some f' := h3
      rw [h6, Option.bind_some]
      unfold flash_Put_j1
      rw [mount_of a2 a3 hF hFF, Option.bind_some]
      exact ⟨t, 0, rfl, .inl ⟨rfl, m, f', p1, a2, a3, a5 rfl⟩⟩
    | new _ hr hc =>
      rw [hmt.fl, hl1] at hr
      rw [if_neg (by simp [len]), hmt.fl]
      have hc0 := hmt.c0
      have hob : 1 - s.Bank = 0 ∨ 1 - s.Bank = 1 := by omega
      have hhl := headB_len (s.Count + 1)
      have hrby := recs_byte m q1.ok
      have hhby : ∀ x ∈ headB (s.Count + 1), Byte x := seal_byte (head_in _)
      generalize hW : [(⟨1 - s.Bank, true, 0, []⟩ : T_api_Write), ⟨1 - s.Bank, false, 10, recs m⟩, ⟨1 - s.Bank, false, 0, headB (s.Count + 1)⟩] = W at *
      have hw0 : W[0]? = some ⟨1 - s.Bank, true, 0, []⟩ := by rw [← hW]; rfl
      have hw1 : W[1]? = some ⟨1 - s.Bank, false, 10, recs m⟩ := by rw [← hW]; rfl
      have hw2 : W[2]? = some ⟨1 - s.Bank, false, 0, headB (s.Count + 1)⟩ := by rw [← hW]; rfl
      have hwl : W.length = 3 := by rw [← hW]; rfl
      have hrl := hm.rl (1 - s.Bank)
      have e1 := eff_erase F hm (1 - s.Bank) (-1) hob N (eff_all _) (Nat.le_refl _) hF
      rw [List.drop_eq_nil_of_le (by omega), List.append_nil] at e1
      have hm1 := hm.w (1 - s.Bank) (b := List.replicate N 255) (by simp) (rep_byte _)
      have e2 := eff_write F hm1 (1 - s.Bank) (-1) 10 (recs m) hob (recs m).length (List.replicate 10 255) (List.replicate (N - 10 - (recs m).length) 255) (eff_all _) (Nat.le_refl _) (by simp) hrby (by
        rw [rB_wB, List.replicate_append_replicate, List.replicate_append_replicate]
        congr 1
        omega) hF
      rw [wB_wB, List.take_length] at e2
      have hm2 := hm.w (1 - s.Bank) (b := List.replicate 10 255 ++ (recs m ++ List.replicate (N - 10 - (recs m).length) 255)) (by simp; omega) (byte_app (rep_byte _) (byte_app hrby (rep_byte _)))
      have e3 := eff_write F hm2 (1 - s.Bank) (-1) 0 (headB (s.Count + 1)) hob 10 [] (recs m ++ List.replicate (N - 10 - (recs m).length) 255) (by rw [hhl]; exact eff_all _) (by omega) rfl hhby (by rw [rB_wB, List.nil_append]) hF
      rw [wB_wB, List.nil_append, List.take_of_length_le (by omega)] at e3
      have hm3 := hm.w (1 - s.Bank) (b := headB (s.Count + 1) ++ (recs m ++ List.replicate (N - 10 - (recs m).length) 255)) (by simp [hhl]; omega) (byte_app hhby (byte_app hrby (rep_byte _)))
      have h1 := put_next (F := F) (ws := W) (e := 0) (c := f) (i := 0) (n := F' + 1 + 1 + 1) hw0 e1 (by omega)
      have h2 := put_next (F := F) (ws := W) (e := 0) (i := 1) (n := F' + 1 + 1) hw1 e2 (by omega)
      have h3 := put_next (F := F) (ws := W) (e := 0) (i := 2) (n := F' + 1) hw2 e3 (by omega)
      have h4 := put_stop (F := F) (ws := W) (e := 0) (c := wB f (1 - s.Bank) (headB (s.Count + 1) ++ (recs m ++ List.replicate (N - 10 - (recs m).length) 255))) (n := F')
      rw [hwl] at h4
      have h5 := h1.trans (h2.trans (h3.trans h4))
      rw [← hF'] at h5
      obtain ⟨t, t1, t2⟩ := mnt_new hm h (act_new (F := F) (s.Count + 1) (by omega) (by omega) q1 (N - 10 - (recs m).length) (by omega) (by omega) hF hFF) hF hFF
      have h6 : iter (fun q : T_api_Flash × Int => flash_Put_l1 F (W, 0) q.1 q.2) F (f, 0) = some _ := h5
      rw [h6, Option.bind_some]
      unfold flash_Put_j1
      rw [mount_of hm3 t1 hF hFF, Option.bind_some]
      exact ⟨t, 0, rfl, .inl ⟨rfl, m, _, p1, hm3, t1, t2⟩⟩
  · have hq : (e != 0) = true := by simp [h0]
    rw [hq, Bool.true_or, if_pos rfl, kept_id F f s hmt (by omega) (by omega) hF, Option.bind_some]
    exact ⟨s, e, rfl, .inr ⟨by omega, rfl⟩⟩
theorem keep_j3 {F : Nat} {f : T_api_Flash} {N : Nat} {t : T_api_Store} (hm : Mmy f N) (h : Mnt F f t) (i : Nat) (hi : i ≤ 100) (hF : 200000 < F) (hFF : F ≤ FF) : wirelesslaw39_FlashKeeps_j3 F i t t.Items = some (.next (t, t.Items, ((i + 1 : Nat) : Int))) := by
  have hmt := mnt_mtd hm h
  have hil := hmt.il
  have hmn1 := hm.n1
  have hl1 := hm.l1
  have hl2 := hm.l2
  unfold wirelesslaw39_FlashKeeps_j3
  rw [hmt.fl, copy_id F f (by omega) (by omega), Option.bind_some, mount_of hm h hF hFF, Option.bind_some, sameI_refl F t.Items (by omega) hF, Option.bind_some, if_neg (by decide), same_refl F t (by omega) hF, Option.bind_some, Option.bind_some, if_neg (by decide), w64_nat i (by omega)]
theorem keep_step {F : Nat} {f : T_api_Flash} {N : Nat} {s : T_api_Store} (hm : Mmy f N) (h : Mnt F f s) (ls : List T_wirelesslaw39_Step) (i : Nat) (x : T_wirelesslaw39_Step) (hx : ls[i]? = some x) (hi : i ≤ 100) (k0 : 0 ≤ x.Key) (k1 : x.Key < 65536) (vb : ∀ b ∈ x.Value, Byte b) (vl : x.Value.length ≤ 140737488355328) (hF : 200000 < F) (hFF : F ≤ FF) :
    ∃ f' t, wirelesslaw39_FlashKeeps_l1 F ls s s.Items (i : Int) = some (.next (t, t.Items, ((i + 1 : Nat) : Int))) ∧ Mmy f' N ∧ Mnt F f' t := by
  have hin : i < ls.length := (List.getElem?_eq_some_iff.1 hx).1
  have hil := (mnt_mtd hm h).il
  unfold wirelesslaw39_FlashKeeps_l1
  rw [if_pos (dt (by rw [len_nat]; omega)), idx_nat, hx, Option.bind_some, Option.bind_some]
  unfold wirelesslaw39_copied
  rw [app_cat (by simp; omega), List.nil_append, Option.bind_some, Option.bind_some]
  obtain ⟨t, e, a1, a2⟩ := put_fl hm h k0 k1 vb hF hFF
  rw [a1, Option.bind_some]
  simp only
  unfold wirelesslaw39_FlashKeeps_j2
  rcases a2 with ⟨rfl, m, f', b1, b2, b3, rfl⟩ | ⟨he, rfl⟩
  · rw [if_pos (by decide), idx_nat, hx, Option.bind_some]
    unfold wirelesslaw39_after
    rw [b1, Option.bind_some, Option.bind_some, keep_j3 b2 b3 i hi hF hFF]
    exact ⟨f', t, rfl, b2, b3⟩
  · rw [if_neg (by simp; omega), same_refl F t (by omega) hF, Option.bind_some, if_neg (by simp; omega), keep_j3 hm h i hi hF hFF]
    exact ⟨f, t, rfl, hm, h⟩
theorem keeps_law (F : Nat) (hL : wirelesslaw39_lives F = some true) (size : Int) (ls : List T_wirelesslaw39_Step) (hk : ∀ x ∈ ls, 0 ≤ x.Key ∧ x.Key < 65536) (hvb : ∀ x ∈ ls, ∀ b ∈ x.Value, Byte b) (hvl : ∀ x ∈ ls, x.Value.length ≤ 140737488355328) (hF : 200000 < F) (hFF : F ≤ FF) : wirelesslaw39_FlashKeeps F size ls = some true := by
  unfold wirelesslaw39_FlashKeeps
  rw [hL, Option.bind_some, if_neg (by decide), len_nat]
  by_cases hg : 64 ≤ size ∧ size ≤ 4096 ∧ ls.length ≤ 60
  · obtain ⟨g1, g2, g3⟩ := hg
    obtain ⟨N, rfl⟩ := Int.eq_ofNat_of_zero_le (a := size) (by omega)
    rw [if_neg (by simp; omega), blank_mem F N (by omega) (by omega) hF, Option.bind_some]
    have hm : Mmy ⟨(List.replicate N 255, List.replicate N 255)⟩ N := ⟨by simp, by simp, by omega, by omega, rep_byte _, rep_byte _⟩
    have hn : ∀ n, ¬ Head (List.replicate N 255) n := fun n => by
      have := nohead_rep (k := N) (by omega) [] n
      rwa [List.append_nil] at this
    rw [mount_of hm (.none hn hn) hF hFF, Option.bind_some]
    obtain ⟨o, h1, h2⟩ := iter_by (body := fun s : T_api_Store × List T_api_Item × Int => wirelesslaw39_FlashKeeps_l1 F ls s.1 s.2.1 s.2.2)
      (fun s => (∃ f, Mmy f N ∧ Mnt F f s.1) ∧ s.1.Items = s.2.1 ∧ ∃ i : Nat, s.2.2 = (i : Int) ∧ i ≤ ls.length) (fun o => o = .inl ()) (fun s => ls.length - s.2.2.toNat) (by
      rintro ⟨q, l, at_⟩ ⟨⟨f, hm, hq⟩, hl, i, rfl, hi⟩
      simp only at hm hq hl
      subst hl
      by_cases hin : i < ls.length
      · have hx : ls[i]? = some ls[i] := List.getElem?_eq_getElem hin
        have hmem := List.getElem_mem hin
        obtain ⟨f', t, a1, a2, a3⟩ := keep_step hm hq ls i ls[i] hx (by omega) (hk _ hmem).1 (hk _ hmem).2 (hvb _ hmem) (hvl _ hmem) hF hFF
        exact .inl ⟨_, a1, ⟨⟨f', a2, a3⟩, rfl, i + 1, rfl, by omega⟩, by simp only; omega⟩
      · refine .inr ⟨.inl (), ?_, rfl⟩
        show wirelesslaw39_FlashKeeps_l1 F ls q q.Items (i : Int) = _
        unfold wirelesslaw39_FlashKeeps_l1
        rw [if_neg (df (by rw [len_nat]; omega))]) F (_, [], 0) ⟨⟨_, hm, .none hn hn⟩, rfl, 0, rfl, by omega⟩ (by simp only; omega)
    simp only
    rw [h1, Option.bind_some, h2]
    rfl
  · rw [if_pos (by simp; omega)]
theorem gbyte {x : Int} (h : GInt .u8 x) : Byte x := by
  have h1 : IntKind.u8.min = 0 := rfl
  have h2 : IntKind.u8.max = 255 := rfl
  unfold GInt at h
  rw [h1, h2] at h
  unfold Byte
  omega
theorem gu16 {x : Int} (h : GInt .u16 x) : 0 ≤ x ∧ x < 65536 := by
  have h1 : IntKind.u16.min = 0 := rfl
  have h2 : IntKind.u16.max = 65535 := rfl
  unfold GInt at h
  rw [h1, h2] at h
  omega
theorem keeps_g (size : Int) (ls : List T_wirelesslaw39_Step) (h : GAll G_T_wirelesslaw39_Step ls) : wirelesslaw39_FlashKeeps FF size ls = some true :=
  keeps_law FF lives_ok size ls (fun x hx => gu16 (h.2 x hx).1) (fun x hx b hb => gbyte ((h.2 x hx).2.1.2 b hb)) (fun x hx => by
    have h1 := (h.2 x hx).2.1.1
    have h2 : reachBytes = 140737488351232 := rfl
    omega) (by decide) (Nat.le_refl _)
end V
end Go.Proofs.YtojcklkcjnnkaaaDoor
