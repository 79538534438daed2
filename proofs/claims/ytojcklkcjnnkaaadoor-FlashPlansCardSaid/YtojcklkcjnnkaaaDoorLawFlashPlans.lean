/-
  Plan, Put; FlashPlans.
-/
import Derived.Test.YtojcklkcjnnkaaaDoorLawK
import Derived.Test.YtojcklkcjnnkaaaDoorOpen
namespace Go.Proofs.YtojcklkcjnnkaaaDoor
namespace V
def recs (l : List T_api_Item) : List Int := (l.map fun x => recB x.Key x.Value).flatten
theorem recs_snoc (l : List T_api_Item) (x : T_api_Item) : recs (l ++ [x]) = recs l ++ recB x.Key x.Value := by simp [recs]
theorem recs_len : ∀ (l : List T_api_Item), (∀ x ∈ l, OkI x) → (recs l).length ≤ 1032 * l.length
  | [], _ => by simp [recs]
  | x :: l, h => by
    have h1 := (h x (by simp)).vl
    have h2 := recs_len l fun y hy => h y (by simp [hy])
    have e : (recs (x :: l)).length = (recB x.Key x.Value).length + (recs l).length := by simp [recs]
    rw [e, recB_len, List.length_cons]
    omega
theorem recs_byte (l : List T_api_Item) (h : ∀ x ∈ l, OkI x) : ∀ b ∈ recs l, Byte b := fun b hb => by
  obtain ⟨y, hy, hby⟩ := List.mem_flatten.1 hb
  obtain ⟨x, hx, rfl⟩ := List.mem_map.1 hy
  exact seal_byte (rec_in _ (h x hx).vb) b hby
theorem all_f (F : Nat) (l : List T_api_Item) (h : ∀ x ∈ l, OkI x) (hl : l.length ≤ 100000) (hF : 200000 < F) (hFF : F ≤ FF) : iter (fun s : List Int × Int => flash_Plan_l1 F l s.1 s.2) F ([], 0) = some (recs l) := by
  have := iter_count (body := fun s : List Int × Int => flash_Plan_l1 F l s.1 s.2) (fun i => (recs (l.take i), (i : Int))) l.length (recs l) (by
    intro i hi
    have hx : l[i]? = some l[i] := List.getElem?_eq_getElem hi
    have hok := h _ (List.getElem_mem hi)
    have hn := recs_len (l.take i) fun y hy => h y (List.mem_of_mem_take hy)
    have htl : (l.take i).length ≤ i := by simp; omega
    rw [List.take_add_one, hx, Option.toList_some, recs_snoc]
    generalize l[i] = x at *
    show flash_Plan_l1 F l (recs (l.take i)) (i : Int) = _
    unfold flash_Plan_l1
    have hvl := hok.vl
    rw [if_pos (dt (by rw [len_nat]; omega)), idx_nat, hx, Option.bind_some, record_eq F x.Key x.Value hok.k0 hok.k1 hok.vb (by omega) (by omega) hFF, Option.bind_some, app_cat (by rw [recB_len]; omega), Option.bind_some, w64_nat i (by omega)]) (by
    show flash_Plan_l1 F l _ _ = _
    unfold flash_Plan_l1
    rw [if_neg (df (by rw [len_nat]; omega)), List.take_length]) F 0 (by omega) (by omega)
  exact this
theorem all_r (F : Nat) (l : List T_api_Item) (h : ∀ x ∈ l, OkI x) (hl : l.length ≤ 100000) (hF : 200000 < F) (hFF : F ≤ FF) : iter (fun s : List Int × Int => wirelessref39_Plan_l1 F l s.1 s.2) F ([], 0) = some (recs l) := by
  have := iter_count (body := fun s : List Int × Int => wirelessref39_Plan_l1 F l s.1 s.2) (fun i => (recs (l.take i), (i : Int))) l.length (recs l) (by
    intro i hi
    have hx : l[i]? = some l[i] := List.getElem?_eq_getElem hi
    have hok := h _ (List.getElem_mem hi)
    have hn := recs_len (l.take i) fun y hy => h y (List.mem_of_mem_take hy)
    have htl : (l.take i).length ≤ i := by simp; omega
    rw [List.take_add_one, hx, Option.toList_some, recs_snoc]
    generalize l[i] = x at *
    show wirelessref39_Plan_l1 F l (recs (l.take i)) (i : Int) = _
    unfold wirelessref39_Plan_l1
    have hvl := hok.vl
    rw [if_pos (dt (by rw [len_nat]; omega)), idx_nat, hx, Option.bind_some, Option.bind_some, rrecord_eq F x.Key x.Value hok.k0 hok.k1 hok.vb (by omega) (by omega) hFF, Option.bind_some, app_cat (by rw [recB_len]; omega), Option.bind_some, w64_nat i (by omega)]) (by
    show wirelessref39_Plan_l1 F l _ _ = _
    unfold wirelessref39_Plan_l1
    rw [if_neg (df (by rw [len_nat]; omega)), List.take_length]) F 0 (by omega) (by omega)
  exact this
/-- Nothing is to be written: the key has the value. -/
def same (l : List T_api_Item) (k : Int) (v : List Int) : Bool := match l.find? (fun x => x.Key == k) with
  | none => decide (v = [])
  | some x => decide (x.Value = v)
theorem same_f (F : Nat) (l : List T_api_Item) (k : Int) (v : List Int) (h : ∀ x ∈ l, OkI x) (hF : 200000 < F) (hv : v.length ≤ 1024) :
    (if ((got (l.find? fun x => x.Key == k)).2 == (decide ((len v) > 0))) = true then (slices_Equal_byte_byte F (got (l.find? fun x => x.Key == k)).1 v).bind fun x_20 => some (x_20) else some (false)) = some (same l k v) := by
  unfold same
  have hd1 : decide (len v > 0) = !decide (v = []) := by
    cases v with
    | nil => rfl
    | cons _ _ => simp [len]
  cases hf : l.find? fun x => x.Key == k with
  | none =>
    show (if (false == (decide ((len v) > 0))) = true then (slices_Equal_byte_byte F [] v).bind fun x_20 => some (x_20) else some (false)) = some (decide (v = []))
    rw [hd1]
    by_cases hz : v = []
    · subst hz
      rw [if_pos (by decide), equal_eq F _ _ (by simp) hF]
      rfl
    · rw [if_neg (by simp [hz])]
      simp [hz]
  | some x =>
    have hx := h x (List.mem_of_find?_eq_some hf)
    show (if (true == (decide ((len v) > 0))) = true then (slices_Equal_byte_byte F x.Value v).bind fun x_20 => some (x_20) else some (false)) = some (decide (x.Value = v))
    rw [hd1]
    have hvl := hx.vl
    by_cases hz : v = []
    · rw [if_neg (by simp [hz])]
      subst hz
      simp [hx.vn]
    · rw [if_pos (by simp [hz]), equal_eq F _ _ (by omega) hF]
      rfl
theorem same_r (l : List T_api_Item) (k : Int) (v : List Int) (h : ∀ x ∈ l, OkI x) (hvb : ∀ x ∈ v, Byte x) :
    ((if (got (l.find? fun x => x.Key == k)).2 = true then some (((str (got (l.find? fun x => x.Key == k)).1) == (str v))) else some (false)) : Option Bool).bind (fun z => some (z || ((!(got (l.find? fun x => x.Key == k)).2) && ((len v) == 0)))) = some (same l k v) := by
  unfold same
  cases hf : l.find? fun x => x.Key == k with
  | none =>
    show ((some false : Option Bool).bind fun z => some (z || (!false && (len v == 0)))) = some (decide (v = []))
    cases v with
    | nil => rfl
    | cons _ _ => simp [len]; omega
  | some x =>
    have hx := h x (List.mem_of_find?_eq_some hf)
    show ((some (str x.Value == str v) : Option Bool).bind fun z => some (z || (!true && (len v == 0)))) = some (decide (x.Value = v))
    rw [str_bytes hx.vb, str_bytes hvb, Option.bind_some]
    by_cases hq : x.Value = v
    · simp [hq]
    · simp [hq]
theorem plan_w1 (n : Nat) (h : n ≤ 200000000) : w64 (10 + (n : Int)) = 10 + n := w64_id (by omega) (by omega)
theorem plan_w2 (n : Nat) (h : n ≤ 200000000) : w64 ((n : Int) + 10) = n + 10 := w64_id (by omega) (by omega)
theorem plan_w3 {b : Int} (h0 : 0 ≤ b) (h1 : b ≤ 1) : w64 (1 - b) = 1 - b := w64_id (by omega) (by omega)
theorem plan_w4 {b : Int} (h0 : 0 ≤ b) (h1 : b < 4294967296) : w64 (b + 1) = b + 1 := w64_id (by omega) (by omega)
/-- What a plan is. -/
inductive PlanOk (s : T_api_Store) (k : Int) (v : List Int) (m : List T_api_Item) : List T_api_Write → Int → Prop where
  | long (h : 1024 < v.length) : PlanOk s k v m [] 4
  | same (h : same s.Items k v = true) (hv : v.length ≤ 1024) : PlanOk s k v m [] 0
  | app (hv : v.length ≤ 1024) (h : ((recB k v).length : Int) ≤ s.Flash.Banks.1.length - s.End) : PlanOk s k v m [⟨s.Bank, false, s.End, recB k v⟩] 0
  | full (hv : v.length ≤ 1024) : PlanOk s k v m [] 8
  | new (hv : v.length ≤ 1024) (h : 10 + (recs m).length ≤ s.Flash.Banks.1.length) (hc : s.Count < 4294967295) : PlanOk s k v m [⟨1 - s.Bank, true, 0, []⟩, ⟨1 - s.Bank, false, 10, recs m⟩, ⟨1 - s.Bank, false, 0, headB (s.Count + 1)⟩] 0
theorem plan_both (F : Nat) (f : T_api_Flash) (s : T_api_Store) (hm : Mtd f s) (hf : f.Banks.1.length ≤ 65536) (k : Int) (k0 : 0 ≤ k) (k1 : k < 65536) (v : List Int) (hvb : ∀ x ∈ v, Byte x) (hF : 200000 < F) (hFF : F ≤ FF) :
    ∃ m ws e, (v.length ≤ 1024 → wirelessref39_Set F s.Items k v = some m) ∧ flash_Plan F s k v = some (ws, e) ∧ wirelessref39_Plan F s k v = some (ws, e) ∧ PlanOk s k v m ws e ∧ (v.length ≤ 1024 → Lst m ∧ m.length ≤ s.Items.length + 1) := by
  obtain ⟨hfl, hbk, he0, he1, hc0, hc1, hit, hil, hsz⟩ := hm
  unfold flash_Plan wirelessref39_Plan
  rw [len_nat]
  by_cases hv : v.length ≤ 1024
  · have c0 : ¬ decide ((v.length : Int) > 1024) = true := df (by omega)
    rw [if_neg c0, if_neg c0]
    rw [get_eq F s k hit (by omega) hF, rget_eq F s k (fun x hx => by have := (hit.ok x hx).vl; omega) (by omega) hF, Option.bind_some, Option.bind_some]
    obtain ⟨m, m1, m2, m3, m4⟩ := set_both F s.Items ⟨k, v⟩ hit k0 k1 hvb hv (by omega) hF
    have hsf := same_f F s.Items k v hit.ok hF hv
    have hsr := same_r s.Items k v hit.ok hvb
    rw [len_nat] at hsf
    rw [hsf, Option.bind_some]
    generalize (if (got (s.Items.find? fun x => x.Key == k)).2 = true then some ((str (got (s.Items.find? fun x => x.Key == k)).1) == (str v)) else some (false) : Option Bool) = q at hsr ⊢
    cases q with
    | none => cases hsr
    | some q =>
      rw [Option.bind_some, Option.some.injEq] at hsr
      rw [len_nat] at hsr
      rw [Option.bind_some, hsr]
      by_cases hs : same s.Items k v = true
      · rw [if_pos hs, if_pos hs]
        exact ⟨m, [], 0, fun _ => m2, rfl, rfl, .same hs hv, fun _ => ⟨m3, m4⟩⟩
      · rw [if_neg hs, if_neg hs]
        rw [record_eq F k v k0 k1 hvb (by omega) (by omega) hFF, rrecord_eq F k v k0 k1 hvb (by omega) (by omega) hFF, Option.bind_some, Option.bind_some]
        unfold flash_Free flash_size flash_Free_j1
        rw [Option.bind_some, Option.bind_some, len_nat, len_nat, hfl]
        have hw : w64 ((f.Banks.1.length : Int) - s.End) = (f.Banks.1.length : Int) - s.End := w64_id (by omega) (by omega)
        rw [hw]
        clear hw
        by_cases hr : ((recB k v).length : Int) ≤ f.Banks.1.length - s.End
        · rw [if_pos (dt hr), if_pos (dt hr)]
          exact ⟨m, _, 0, fun _ => m2, rfl, rfl, .app hv (by rw [hfl]; exact hr), fun _ => ⟨m3, m4⟩⟩
        · rw [if_neg (df hr), if_neg (df hr)]
          unfold slices_Clone_api_Item_api_Item
          rw [app_small (by simp; omega) (by decide), List.nil_append, Option.bind_some, Option.bind_some, m1, Option.bind_some]
          simp only at m2
          rw [m2, Option.bind_some, all_f F m m3.ok (by omega) hF hFF, all_r F m m3.ok (by omega) hF hFF, Option.bind_some, Option.bind_some]
          unfold flash_Plan_j1 wirelessref39_Plan_j1 flash_size
          have hml := recs_len m m3.ok
          rw [Option.bind_some, len_nat, len_nat, hfl]
          have hk1 : (recs m).length ≤ 200000000 := by omega
          have hb0 : 0 ≤ s.Bank ∧ s.Bank ≤ 1 := by omega
          generalize hR : recs m = R at *
          rw [plan_w1 R.length hk1, plan_w2 R.length hk1, plan_w3 hb0.1 hb0.2, plan_w4 hc0 hc1]
          by_cases hn : 10 + R.length ≤ f.Banks.1.length ∧ s.Count < 4294967295
          · have c1 : ¬ ((decide ((10 + (R.length : Int)) > (f.Banks.1.length : Int))) || (decide (s.Count ≥ 4294967295))) = true := by simp; omega
            have c2 : ¬ ((decide (((R.length : Int) + 10) > (f.Banks.1.length : Int))) || (s.Count == 4294967295)) = true := by simp; omega
            rw [if_neg c1, if_neg c2, header_eq F _ (by omega) (by omega) (by omega) hFF, rheader_eq F _ (by omega) (by omega) (by omega) hFF, Option.bind_some]
            subst hR
            exact ⟨m, _, 0, fun _ => rfl, rfl, rfl, .new hv (by rw [hfl]; exact hn.1) hn.2, fun _ => ⟨m3, m4⟩⟩
          · have c1 : ((decide ((10 + (R.length : Int)) > (f.Banks.1.length : Int))) || (decide (s.Count ≥ 4294967295))) = true := by simp; omega
            have c2 : ((decide (((R.length : Int) + 10) > (f.Banks.1.length : Int))) || (s.Count == 4294967295)) = true := by simp; omega
            rw [if_pos c1, if_pos c2]
            exact ⟨m, [], 8, fun _ => rfl, rfl, rfl, .full hv, fun _ => ⟨m3, m4⟩⟩
  · have c0 : decide ((v.length : Int) > 1024) = true := dt (by omega)
    rw [if_pos c0, if_pos c0]
    exact ⟨[], [], 4, fun h => absurd h hv, rfl, rfl, .long (by omega), fun h => absurd h hv⟩
structure OkW (w : T_api_Write) : Prop where
  b : w.Bytes.length ≤ 65536
  o : I64 w.Offset
/-- One memory has the size of another, and bytes where that one has. -/
structure Shp (f g : T_api_Flash) : Prop where
  a : g.Banks.1.length = f.Banks.1.length
  b : g.Banks.2.length = f.Banks.2.length
  c : (∀ x ∈ f.Banks.1, Byte x) → ∀ x ∈ g.Banks.1, Byte x
  d : (∀ x ∈ f.Banks.2, Byte x) → ∀ x ∈ g.Banks.2, Byte x
theorem shp_rfl (f : T_api_Flash) : Shp f f := ⟨rfl, rfl, fun h => h, fun h => h⟩
theorem shp_trans {f g h : T_api_Flash} (a : Shp f g) (b : Shp g h) : Shp f h := ⟨b.a.trans a.a, b.b.trans a.b, fun q => b.c (a.c q), fun q => b.d (a.d q)⟩
theorem done_both (F : Nat) (f : T_api_Flash) (ws : List T_api_Write) (e : Int) (hw : ∀ w ∈ ws, OkW w) (h1 : f.Banks.1.length ≤ 65536) (h2 : f.Banks.2.length ≤ 65536) (hn : ws.length ≤ 100) (hF : 200000 < F) :
    ∃ g, iter (fun s : T_api_Flash × Int => flash_Put_l1 F (ws, e) s.1 s.2) F (f, 0) = some g ∧ wirelessref39_Done F f ws = some g ∧ Shp f g := by
  unfold wirelessref39_Done wirelessref39_Done_j1
  obtain ⟨g, g2, e1, e2, rfl, e3⟩ := iter_sim (b1 := fun s : T_api_Flash × Int => flash_Put_l1 F (ws, e) s.1 s.2) (b2 := fun s : T_api_Flash × Int => wirelessref39_Done_l1 F ws s.1 s.2)
    (fun s t => s = t ∧ Shp f s.1 ∧ ∃ i : Nat, s.2 = (i : Int) ∧ i ≤ ws.length) (fun o p => o = p ∧ Shp f o) (fun s => ws.length - s.2.toNat) (by
    rintro ⟨g, at_⟩ _ ⟨rfl, hs, i, hi, hil⟩
    simp only at hs hi
    subst hi
    show (∃ t1 t2, flash_Put_l1 F (ws, e) g (i : Int) = some (.next t1) ∧ wirelessref39_Done_l1 F ws g (i : Int) = some (.next t2) ∧ _) ∨ ∃ o1 o2, flash_Put_l1 F (ws, e) g (i : Int) = some (.done o1) ∧ wirelessref39_Done_l1 F ws g (i : Int) = some (.done o2) ∧ _
    unfold flash_Put_l1 wirelessref39_Done_l1
    by_cases hin : i < ws.length
    · have hx : ws[i]? = some ws[i] := List.getElem?_eq_getElem hin
      have hok := hw _ (List.getElem_mem hin)
      generalize ws[i] = w at *
      obtain ⟨o, a1, a2, a3, a4, a5, a6⟩ := apply_same F g w (-1) (by rw [hs.a]; exact h1) (by rw [hs.b]; exact h2) hok.b hok.o hF
      have hc : decide ((i : Int) < len ws) = true := dt (by rw [len_nat]; omega)
      rw [if_pos hc, if_pos hc, idx_nat, hx, Option.bind_some, Option.bind_some, a1, a2, Option.bind_some, w64_nat i (by omega)]
      exact .inl ⟨_, _, rfl, rfl, ⟨rfl, shp_trans hs ⟨a3, a4, a5, a6⟩, i + 1, rfl, by omega⟩, by simp only; omega⟩
    · have hc : ¬ decide ((i : Int) < len ws) = true := df (by rw [len_nat]; omega)
      rw [if_neg hc, if_neg hc]
      exact .inr ⟨_, _, rfl, rfl, rfl, hs⟩) F (f, 0) (f, 0) ⟨rfl, shp_rfl f, 0, rfl, by omega⟩ (by simp; omega)
  exact ⟨g, e1, by rw [e2]; rfl, e3⟩
theorem kept_id (F : Nat) (f : T_api_Flash) (s : T_api_Store) (hm : Mtd f s) (h1 : f.Banks.1.length ≤ 65536) (h2 : f.Banks.2.length ≤ 65536) (hF : 200000 < F) : flash_kept F s = some s := by
  unfold flash_kept
  have hil := hm.il
  rw [hm.fl, copied_id F f h1 h2 (by omega), Option.bind_some]
  have := iter_count (body := fun q : List T_api_Item × Int => flash_kept_l1 F s q.1 q.2) (fun i => (s.Items.take i, (i : Int))) s.Items.length s.Items (by
    intro i hi
    have hx : s.Items[i]? = some s.Items[i] := List.getElem?_eq_getElem hi
    have hok := (hm.it.ok _ (List.getElem_mem hi)).vl
    have htl : (s.Items.take i).length ≤ i := by simp; omega
    rw [List.take_add_one, hx, Option.toList_some]
    generalize s.Items[i] = x at *
    show flash_kept_l1 F s (s.Items.take i) (i : Int) = _
    unfold flash_kept_l1
    rw [if_pos (dt (by rw [len_nat]; omega)), idx_nat, hx, Option.bind_some, join_one F _ (by omega) (by omega), Option.bind_some, app_small (by simp; omega) (by decide), Option.bind_some, w64_nat i (by omega)]) (by
    show flash_kept_l1 F s _ _ = _
    unfold flash_kept_l1
    rw [if_neg (df (by rw [len_nat]; omega)), List.take_length]) F 0 (by omega) (by omega)
  rw [List.take_zero, show ((0 : Nat) : Int) = 0 from rfl] at this
  rw [this, Option.bind_some]
  unfold flash_kept_j1
  rw [← hm.fl]
theorem plan_ok {s : T_api_Store} {k : Int} {v : List Int} {m : List T_api_Item} {ws : List T_api_Write} {e : Int} (f : T_api_Flash) (hm : Mtd f s) (hf : f.Banks.1.length ≤ 65536) (h : PlanOk s k v m ws e) : (∀ w ∈ ws, OkW w) ∧ ws.length ≤ 100 ∧ (e ≠ 0 → ws = []) ∧ (e = 0 ∨ e = 4 ∨ e = 8) := by
  obtain ⟨hfl, hbk, he0, he1, hc0, hc1, hit, hil, hsz⟩ := hm
  cases h with
  | long h => exact ⟨fun w hw => by simp at hw, by simp, fun _ => rfl, .inr (.inl rfl)⟩
  | same h => exact ⟨fun w hw => by simp at hw, by simp, fun _ => rfl, .inl rfl⟩
  | full h => exact ⟨fun w hw => by simp at hw, by simp, fun _ => rfl, .inr (.inr rfl)⟩
  | app hv h =>
    rw [hfl] at h
    refine ⟨fun w hw => ?_, by simp, fun h => absurd rfl h, .inl rfl⟩
    rw [List.mem_singleton] at hw
    subst hw
    exact ⟨by simp only; omega, by simp only [I64]; omega⟩
  | new hv h hc =>
    rw [hfl] at h
    refine ⟨fun w hw => ?_, by simp, fun h => absurd rfl h, .inl rfl⟩
    have hw' : w = ⟨1 - s.Bank, true, 0, []⟩ ∨ w = ⟨1 - s.Bank, false, 10, recs m⟩ ∨ w = ⟨1 - s.Bank, false, 0, headB (s.Count + 1)⟩ := by simpa using hw
    rcases hw' with rfl | rfl | rfl
    · exact ⟨by simp, by simp only [I64]; omega⟩
    · exact ⟨by simp only; omega, by simp only [I64]; omega⟩
    · exact ⟨by simp only [headB_len]; omega, by simp only [I64]; omega⟩
theorem put_both (F : Nat) (f : T_api_Flash) (s : T_api_Store) (hm : Mtd f s) (hM : wirelessref39_Mount F f = some (s, 0)) (hb1 : ∀ x ∈ f.Banks.1, Byte x) (hb2 : ∀ x ∈ f.Banks.2, Byte x) (hcond : f.Banks.1.length = f.Banks.2.length ∧ 64 ≤ f.Banks.1.length ∧ f.Banks.1.length ≤ 65536)
    (k : Int) (k0 : 0 ≤ k) (k1 : k < 65536) (v : List Int) (hvb : ∀ x ∈ v, Byte x) (hF : 200000 < F) (hFF : F ≤ FF) :
    ∃ t e, flash_Put F s k v = some (t, e) ∧ wirelessref39_Put F s k v = some (t, e) ∧ t.Items.length ≤ 65536 := by
  obtain ⟨hc1, hc2, hc3⟩ := hcond
  obtain ⟨m, ws, e, p1, p2, p3, p4, p5⟩ := plan_both F f s hm hc3 k k0 k1 v hvb hF hFF
  obtain ⟨hw, hn, he, _⟩ := plan_ok f hm hc3 p4
  unfold flash_Put wirelessref39_Put
  rw [p2, p3, Option.bind_some, Option.bind_some]
  simp only
  by_cases h0 : e = 0
  · subst h0
    rw [if_neg (show ¬ ((0 : Int) != 0) = true by decide)]
    by_cases hz : ws = []
    · subst hz
      rw [if_pos (by decide), kept_id F f s hm hc3 (by omega) hF, Option.bind_some]
      obtain ⟨g, g1, g2, g3⟩ := done_both F f [] 0 hw hc3 (by omega) hn hF
      have hg : g = f := by
        obtain ⟨F', rfl⟩ : ∃ F', F = F' + 1 := ⟨F - 1, by omega⟩
        rw [iter_stop (o := f) (by show flash_Put_l1 _ _ f 0 = _; unfold flash_Put_l1; rw [if_neg (by simp [len])])] at g1
        exact (Option.some.inj g1).symm
      rw [hm.fl, g2, Option.bind_some, hg, hM, Option.bind_some]
      exact ⟨s, 0, rfl, rfl, hm.il⟩
    · have hl : ws.length ≠ 0 := fun h => hz (List.length_eq_zero_iff.1 h)
      rw [if_neg (by simp [len]; exact hz), hm.fl]
      obtain ⟨g, g1, g2, g3⟩ := done_both F f ws 0 hw hc3 (by omega) hn hF
      obtain ⟨t, e', m1, m2, m3, m4⟩ := mount_both F g (g3.c hb1) (g3.d hb2) hF hFF
      rw [g1, g2, Option.bind_some, Option.bind_some, m2, Option.bind_some]
      unfold flash_Put_j1
      rw [m1, Option.bind_some]
      rcases m4 with ⟨rfl, m4⟩ | ⟨_, _, m4⟩
      · exact ⟨t, 0, rfl, rfl, m4.il⟩
      · exact absurd ⟨by rw [g3.a, g3.b]; exact hc1, by rw [g3.a]; exact hc2, by rw [g3.a]; exact hc3⟩ m4
  · have hq : (e != 0) = true := by simp [h0]
    rw [hq, Bool.true_or, if_pos rfl, if_pos rfl, kept_id F f s hm hc3 (by omega) hF, Option.bind_some]
    exact ⟨s, e, rfl, rfl, hm.il⟩
theorem sameW_refl (F : Nat) (a : List T_api_Write) (hl : a.length ≤ 100) (hF : 200000 < F) : wirelessref39_SameWrites F a a = some true := by
  unfold wirelessref39_SameWrites
  rw [if_neg (by simp)]
  have := iter_count (body := fun s : Int => wirelessref39_SameWrites_l1 F a a s) (fun i => (i : Int)) a.length (.inl ()) (by
    intro i hi
    have hx : a[i]? = some a[i] := List.getElem?_eq_getElem hi
    show wirelessref39_SameWrites_l1 F a a (i : Int) = _
    unfold wirelessref39_SameWrites_l1 wirelessref39_SameWrites_j2
    rw [if_pos (dt (by rw [len_nat]; omega)), idx_nat, hx, Option.bind_some, Option.bind_some, if_neg (by simp), Option.bind_some, Option.bind_some, if_neg (by simp), Option.bind_some, Option.bind_some, if_neg (by simp), Option.bind_some, Option.bind_some, if_neg (by simp), w64_nat i (by omega)]) (by
    show wirelessref39_SameWrites_l1 F a a _ = _
    unfold wirelessref39_SameWrites_l1
    rw [if_neg (df (by rw [len_nat]; omega))]) F 0 (by omega) (by omega)
  rw [show ((0 : Nat) : Int) = 0 from rfl] at this
  rw [this]
  rfl
theorem plans_law (F : Nat) (hL : wirelesslaw39_lives F = some true) (f : T_api_Flash) (k : Int) (v : List Int) (k0 : 0 ≤ k) (k1 : k < 65536) (hb1 : ∀ x ∈ f.Banks.1, Byte x) (hb2 : ∀ x ∈ f.Banks.2, Byte x) (hvb : ∀ x ∈ v, Byte x) (hF : 200000 < F) (hFF : F ≤ FF) : wirelesslaw39_FlashPlans F f k v = some true := by
  unfold wirelesslaw39_FlashPlans
  rw [hL, Option.bind_some, if_neg (by decide), len_nat, len_nat, len_nat]
  have h3 : ∀ z : Bool, v.length ≤ 4096 → (z || decide ((v.length : Int) > 4096)) = z := fun z h => by
    rw [decide_eq_false (by omega), Bool.or_false]
  have h4 : ∀ z : Bool, ¬ v.length ≤ 4096 → (z || decide ((v.length : Int) > 4096)) = true := fun z h => by
    rw [decide_eq_true (by omega), Bool.or_true]
  by_cases hv : v.length ≤ 4096
  · by_cases h1 : f.Banks.1.length ≤ 4096
    · rw [if_neg (df (by omega)), Option.bind_some, h3 _ hv]
      by_cases h2 : f.Banks.2.length ≤ 4096
      · rw [if_neg (df (by omega)), copy_id F f (by omega) (by omega), Option.bind_some]
        obtain ⟨s, e, e1, e2, hLs, he⟩ := mount_both F f hb1 hb2 hF hFF
        rw [e1, Option.bind_some]
        simp only
        rcases he with ⟨rfl, hm⟩ | ⟨rfl, _⟩
        · have hcond := hm.sz
          rw [if_neg (by decide), e2, Option.bind_some]
          unfold wirelesslaw39_copied
          rw [app_cat (by simp; omega), List.nil_append, Option.bind_some, Option.bind_some]
          obtain ⟨m, ws, e, p1, p2, p3, p4, p5⟩ := plan_both F f s hm (by omega) k k0 k1 v hvb hF hFF
          obtain ⟨t, e', t1, t2, t3⟩ := put_both F f s hm e2 hb1 hb2 hcond k k0 k1 v hvb hF hFF
          obtain ⟨_, hn, _⟩ := plan_ok f hm (by omega) p4
          rw [p2, Option.bind_some]
          unfold wirelesslaw39_FlashPlans_j1 wirelesslaw39_FlashPlans_j2 wirelesslaw39_copied
          rw [p3, Option.bind_some, if_neg (by simp), sameW_refl F ws hn hF, Option.bind_some, Option.bind_some, if_neg (by decide), app_cat (by simp; omega), List.nil_append, Option.bind_some, Option.bind_some, t1, Option.bind_some]
          simp only
          rw [t2, Option.bind_some, if_pos (by simp), same_refl F t (by omega) hF]
          rfl
        · rw [if_pos (by decide)]
      · rw [if_pos (dt (by omega))]
    · rw [if_pos (dt (by omega)), Option.bind_some, Bool.true_or, if_pos rfl]
  · by_cases h1 : f.Banks.1.length ≤ 4096
    · rw [if_neg (df (by omega)), Option.bind_some, h4 _ hv, if_pos rfl]
    · rw [if_pos (dt (by omega)), Option.bind_some, h4 _ hv, if_pos rfl]
theorem gbyte {x : Int} (h : GInt .u8 x) : Byte x := by
  have h1 : IntKind.u8.min = 0 := rfl
  have h2 : IntKind.u8.max = 255 := rfl
  unfold GInt at h
  rw [h1, h2] at h
  unfold Byte
  omega
theorem gu16 {x : Int} (h : GInt .u16 x) : 0 ≤ x ∧ x < 65536 := by
  have h1 : IntKind.u16.min = 0 := rfl
  have h2 : IntKind.u16.max = 65535 := rfl
  unfold GInt at h
  rw [h1, h2] at h
  omega
theorem plans_g (f : T_api_Flash) (k : Int) (v : List Int) (h : G_T_api_Flash f) (hk : GInt .u16 k) (hv : GAll (GInt .u8) v) : wirelesslaw39_FlashPlans FF f k v = some true :=
  plans_law FF lives_ok f k v (gu16 hk).1 (gu16 hk).2 (fun x hx => gbyte (h.1.2 x hx)) (fun x hx => gbyte (h.2.2 x hx)) (fun x hx => gbyte (hv.2 x hx)) (by decide) (Nat.le_refl _)
end V
end Go.Proofs.YtojcklkcjnnkaaaDoor
