/-
  Every attribute of a valid database belongs to one service.
-/
import Derived.Test.YtchlimkophmjlaaLawC
namespace Go.Proofs.Ytchlimkophmjlaa
namespace V
def Asc (db : List T_api_Attribute) : Prop := ∀ i a b, db[i]? = some a → db[i + 1]? = some b → a.Handle < b.Handle
theorem asc_lt {db : List T_api_Attribute} (h : Asc db) : ∀ (d p : Nat) a b, db[p]? = some a → db[p + d + 1]? = some b → a.Handle < b.Handle
  | 0, p, a, b, ha, hb => h p a b ha hb
  | d + 1, p, a, b, ha, hb => by
    have hl := (List.getElem?_eq_some_iff.1 hb).1
    have hx : db[p + d + 1]? = some db[p + d + 1] := List.getElem?_eq_getElem (by omega)
    have h1 := asc_lt h d p a _ ha hx
    have h2 := h (p + d + 1) _ b hx hb
    omega
theorem asc_le {db : List T_api_Attribute} (h : Asc db) {p q : Nat} {a b : T_api_Attribute} (ha : db[p]? = some a) (hb : db[q]? = some b) (hpq : p ≤ q) : a.Handle ≤ b.Handle := by
  by_cases e : p = q
  · subst e; rw [ha] at hb; injection hb with hb; subst hb; omega
  · have := asc_lt h (q - p - 1) p a b ha (by rw [show p + (q - p - 1) + 1 = q from by omega]; exact hb)
    omega
theorem asc_lt' {db : List T_api_Attribute} (h : Asc db) {p q : Nat} {a b : T_api_Attribute} (ha : db[p]? = some a) (hb : db[q]? = some b) (hpq : p < q) : a.Handle < b.Handle :=
  asc_lt h (q - p - 1) p a b ha (by rw [show p + (q - p - 1) + 1 = q from by omega]; exact hb)
theorem asc_find {db : List T_api_Attribute} (h : Asc db) {i : Nat} {a : T_api_Attribute} (ha : db[i]? = some a) : db.findIdx? (fun b => b.Handle == a.Handle) = some i := by
  rw [List.findIdx?_eq_some_iff_getElem]
  obtain ⟨hi, he⟩ := List.getElem?_eq_some_iff.1 ha
  refine ⟨hi, by rw [he]; simp, fun j hj => ?_⟩
  have hx : db[j]? = some db[j] := List.getElem?_eq_getElem (by omega)
  have := asc_lt' h hx ha hj
  simp
  omega
def block (db : List T_api_Attribute) (i j : Nat) : List T_api_Attribute := (db.take (j + 1)).drop i
theorem block_get {db : List T_api_Attribute} {i j k : Nat} : (block db i j)[k]? = if i + k < j + 1 then db[i + k]? else none := by
  unfold block
  rw [List.getElem?_drop, List.getElem?_take]
theorem block_len {db : List T_api_Attribute} {i j : Nat} (hj : j < db.length) : (block db i j).length = j + 1 - i := by
  unfold block
  rw [List.length_drop, List.length_take]
  omega
theorem block_filter {db : List T_api_Attribute} (h : Asc db) {i j : Nat} {a b : T_api_Attribute} (ha : db[i]? = some a) (hb : db[j]? = some b) (hij : i ≤ j) : db.filter (inr a.Handle b.Handle) = block db i j := by
  have hj := (List.getElem?_eq_some_iff.1 hb).1
  have e : db = db.take i ++ (block db i j ++ db.drop (j + 1)) := by
    unfold block
    have h1 : db.take i = (db.take (j + 1)).take i := by rw [List.take_take, Nat.min_eq_left (by omega)]
    rw [← List.append_assoc, h1, List.take_append_drop, List.take_append_drop]
  have f1 : (db.take i).filter (inr a.Handle b.Handle) = [] := by
    rw [List.filter_eq_nil_iff]
    intro c hc
    obtain ⟨k, hk⟩ := List.getElem?_of_mem hc
    rw [List.getElem?_take] at hk
    split at hk
    · have := asc_lt' h hk ha (by omega)
      unfold inr
      rw [decide_eq_false (show ¬ c.Handle ≥ a.Handle by omega), Bool.false_and]
      exact Bool.false_ne_true
    · cases hk
  have f2 : (block db i j).filter (inr a.Handle b.Handle) = block db i j := by
    rw [List.filter_eq_self]
    intro c hc
    obtain ⟨k, hk⟩ := List.getElem?_of_mem hc
    rw [block_get] at hk
    split at hk
    · have h1 := asc_le h ha hk (by omega)
      have h2 := asc_le h hk hb (by omega)
      unfold inr
      rw [dt (show c.Handle ≥ a.Handle by omega), dt (show c.Handle ≤ b.Handle by omega)]
      rfl
    · cases hk
  have f3 : (db.drop (j + 1)).filter (inr a.Handle b.Handle) = [] := by
    rw [List.filter_eq_nil_iff]
    intro c hc
    obtain ⟨k, hk⟩ := List.getElem?_of_mem hc
    rw [List.getElem?_drop] at hk
    have := asc_lt' h hb hk (by omega)
    unfold inr
    rw [decide_eq_false (show ¬ c.Handle ≤ b.Handle by omega), Bool.and_false]
    exact Bool.false_ne_true
  rw [show db.filter (inr a.Handle b.Handle) = (db.take i ++ (block db i j ++ db.drop (j + 1))).filter (inr a.Handle b.Handle) from by rw [← e], List.filter_append, List.filter_append, f1, f2, f3, List.nil_append, List.append_nil]
theorem run_cons (a : T_api_Attribute) (l : List T_api_Attribute) : run (a :: l) = if isv a.f_Type = true then 0 else run l + 1 := by
  unfold run
  rw [List.takeWhile_cons]
  cases isv a.f_Type <;> simp
/-- Where the next service begins. -/
def nxt (db : List T_api_Attribute) (i : Nat) : Nat := i + run (db.drop i)
theorem ar1 {n i : Nat} (h : i ≤ n) : ¬ ((n + 1 - i : Nat) : Int) = 0 := by omega
theorem ar2 {n m : Nat} (h : n < m) : ¬ ((n + 1 : Nat) : Int) > (m : Int) := by omega
theorem ar3 {n i : Nat} (h : i ≤ n) : (i : Int) + ((n + 1 - i : Nat) : Int) = ((n + 1 : Nat) : Int) := by omega
theorem ar4 {n : Nat} (h : n ≤ 1000) : w64 ((n + 1 : Nat) : Int) = ((n + 1 : Nat) : Int) := w64_id (by omega) (by omega)
theorem covers_iter (F : Nat) (db : List T_api_Attribute) (hdb : ∀ a ∈ db, AOk a) (hl : db.length ≤ 100) (hv : ∀ a ∈ db, a.Value.length ≤ 8192) (hasc : Asc db) (hfirst : ∀ a, db[0]? = some a → isv a.f_Type = true) (hF : db.length + 20 < F) : iter (fun s => wirelesslaw43_DatabaseCovers_l1 F db s.1 s.2) F (0, 0) = some (.inl (len db)) := by
  have := iter_count (body := fun s : Int × Int => wirelesslaw43_DatabaseCovers_l1 F db s.1 s.2) (fun i => (((nxt db i : Nat) : Int), (i : Int))) db.length (.inl (len db)) (by
    intro i hi
    have hx : db[i]? = some db[i] := List.getElem?_eq_getElem hi
    have hdr : db.drop i = db[i] :: db.drop (i + 1) := List.drop_eq_getElem_cons hi
    generalize db[i] = a at hx hdr
    have hg : grp db a.Handle = if isv a.f_Type = true then (hnd db (lst db i), true) else (0, false) := by
      unfold grp
      rw [asc_find hasc hx]
      simp only [hx]
    show wirelesslaw43_DatabaseCovers_l1 F db _ (i : Int) = _
    unfold wirelesslaw43_DatabaseCovers_l1
    rw [if_pos (dt (by rw [len_nat]; omega)), idx_nat, hx, Option.bind_some, ugroup F db hdb _ (by omega) (by omega), Option.bind_some, hg]
    by_cases hs : isv a.f_Type = true
    · rw [if_pos hs]
      simp only
      rw [if_neg (by decide), Option.bind_some]
      have hll := lst_lt hi
      have hb : db[lst db i]? = some db[lst db i] := List.getElem?_eq_getElem hll
      generalize db[lst db i] = b at hb
      have hle : i ≤ lst db i := by unfold lst; omega
      have hh : hnd db (lst db i) = b.Handle := by unfold hnd; rw [hb]
      have hbl := block_len (db := db) (i := i) hll
      have hnx : nxt db i = i := by unfold nxt; rw [hdr, run_cons, if_pos hs]; rfl
      have hnx2 : nxt db (i + 1) = lst db i + 1 := by unfold nxt lst; omega
      rw [hh, urange F db _ _ (by omega) hv (by omega), Option.bind_some, block_filter hasc hx hb hle]
      have i0 : idx (block db i (lst db i)) 0 = some a := by
        rw [show (0 : Int) = ((0 : Nat) : Int) from rfl, idx_nat, block_get, if_pos (by omega)]
        exact hx
      have i1 : idx (block db i (lst db i)) (w64 (len (block db i (lst db i)) - 1)) = some b := by
        rw [len_nat, hbl, w64_id (by omega) (by omega), show (((lst db i + 1 - i : Nat) : Int) - 1) = ((lst db i - i : Nat) : Int) from by omega, idx_nat, block_get, if_pos (by omega), show i + (lst db i - i) = lst db i from by omega]
        exact hb
      have hwi := w64_nat i (by omega)
      have c0 : ¬ (len (block db i (lst db i)) == 0) = true := by
        rw [beq_iff_eq, len_nat, hbl]
        exact ar1 hle
      have c1 : ¬ (a.Handle != a.Handle) = true := by simp
      have c2 : ¬ ((b.Handle != b.Handle) || decide (((nxt db (i + 1) : Nat) : Int) > len db)) = true := by
        rw [show (b.Handle != b.Handle) = false from by simp, Bool.false_or]
        rw [hnx2, len_nat]
        exact df (ar2 hll)
      have hw : w64 (((nxt db i : Nat) : Int) + len (block db i (lst db i))) = ((nxt db (i + 1) : Nat) : Int) := by
        rw [len_nat, hbl, hnx, hnx2, ar3 hle, ar4 (Nat.le_of_lt (Nat.lt_of_lt_of_le hll (Nat.le_trans hl (by decide))))]
      rw [if_neg c0, i0, Option.bind_some, Option.bind_some, if_neg c1, i1, Option.bind_some, hw, if_neg c2, Option.bind_some, hnx, idx_nat, hx, Option.bind_some]
      unfold wirelesslaw43_DatabaseCovers_j3 wirelesslaw43_DatabaseCovers_j2
      rw [if_neg c1, hwi]
      rw [hnx] at hw
      rw [hw]
    · rw [if_neg hs]
      simp only
      rw [if_pos (by decide)]
      unfold wirelesslaw43_DatabaseCovers_j2
      have hnx : nxt db i = nxt db (i + 1) := by
        unfold nxt
        rw [hdr, run_cons, if_neg hs]
        omega
      rw [hnx, w64_nat i (by omega)]) (by
    show wirelesslaw43_DatabaseCovers_l1 F db _ _ = _
    unfold wirelesslaw43_DatabaseCovers_l1
    rw [if_neg (df (by rw [len_nat]; omega))]
    congr 3
    show ((nxt db db.length : Nat) : Int) = len db
    unfold nxt
    rw [List.drop_length, len_nat]
    rfl) F 0 (by omega) (by omega)
  have h0 : nxt db 0 = 0 := by
    unfold nxt
    cases db with
    | nil => rfl
    | cons a l => rw [List.drop_zero, run_cons, if_pos (hfirst a rfl)]
  rw [h0] at this
  rw [show ((((0 : Nat) : Int), ((0 : Nat) : Int)) : Int × Int) = (0, 0) from rfl] at this
  exact this
end V
end Go.Proofs.Ytchlimkophmjlaa
