/-
  Lists of bonds after a bond was added or used.
-/
import Derived.Test.YtbdhonofhlpdoaaDoorLawL
namespace Go.Proofs.YtbdhonofhlpdoaaDoor
namespace V
def sameA (c x : T_api_Bond) : Bool := (x.Peer.Address.Kind == c.Peer.Address.Kind) && (x.Peer.Address.Bits == c.Peer.Address.Bits)
theorem sameA_iff {c x : T_api_Bond} : sameA c x = true ↔ x.Peer.Address = c.Peer.Address := by
  unfold sameA
  constructor
  · intro h
    simp only [Bool.and_eq_true, beq_iff_eq] at h
    cases hx : x.Peer.Address
    cases hc : c.Peer.Address
    rw [hx, hc] at h
    simp only at h
    rw [h.1, h.2]
  · intro h
    simp [h]
theorem iter_find {O : Type} {body : Int → Option (Out Int O)} {l : List T_api_Bond} {p : T_api_Bond → Bool} {o : Nat → O} {e : O} (h : ∀ (i : Nat) x, l[i]? = some x → body (i : Int) = some (if p x = true then .done (o i) else .next ((i + 1 : Nat) : Int))) (he : body (l.length : Int) = some (.done e)) :
    ∀ (F i : Nat), i ≤ l.length → l.length - i < F → iter body F (i : Int) = some (match (l.drop i).findIdx? p with | some k => o (i + k) | none => e)
  | 0, i, _, hF => by omega
  | F + 1, i, hi, hF => by
    by_cases hin : i < l.length
    · have hx : l[i]? = some l[i] := List.getElem?_eq_getElem hin
      have hdr : l.drop i = l[i] :: l.drop (i + 1) := List.drop_eq_getElem_cons hin
      have hb := h i _ hx
      by_cases hp : p l[i] = true
      · rw [if_pos hp] at hb
        rw [iter_stop hb, hdr, List.findIdx?_cons, if_pos hp]
        rfl
      · rw [if_neg hp] at hb
        rw [iter_step hb, iter_find h he F (i + 1) hin (by omega), hdr, List.findIdx?_cons, if_neg hp]
        cases (l.drop (i + 1)).findIdx? p with
        | none => rfl
        | some k =>
          simp only [Option.map_some]
          rw [show i + (k + 1) = i + 1 + k by omega]
    · have : i = l.length := by omega
      subst this
      rw [iter_stop he, List.drop_length]
      rfl
theorem index_ok (F : Nat) (l : List T_api_Bond) (c : T_api_Bond) (hF : 2000 < F) (hl : l.length ≤ 1000) : bonds_index_api_Bond_at54 F l c = some (match l.findIdx? (sameA c) with | some k => (k : Int) | none => -1) := by
  unfold bonds_index_api_Bond_at54 bonds_index_api_Bond_at54_j1
  have := iter_find (body := fun s => bonds_index_api_Bond_at54_l1 F l c s) (l := l) (p := sameA c) (o := fun i => .inr (i : Int)) (e := .inl ()) (fun i x hx => by
    have hi := (List.getElem?_eq_some_iff.1 hx).1
    show bonds_index_api_Bond_at54_l1 F l c _ = _
    unfold bonds_index_api_Bond_at54_l1 bonds_Add_1
    rw [if_pos (by simp [len]; omega), idx_nat, hx, Option.bind_some, Option.bind_some, w64_nat i (by omega)]
    show (if sameA c x = true then _ else _) = _
    cases sameA c x <;> rfl) (by
    show bonds_index_api_Bond_at54_l1 F l c _ = _
    unfold bonds_index_api_Bond_at54_l1
    rw [if_neg (by simp [len])]) F 0 (by omega) (by omega)
  rw [List.drop_zero, show ((0 : Nat) : Int) = 0 from rfl] at this
  rw [this]
  cases l.findIdx? (sameA c) with
  | none => rfl
  | some k => simp
/-- The first of the least used ones. -/
def leastTo (l : List T_api_Bond) : Nat → Nat
  | 0 => 0
  | i + 1 => if (used l).getD i 0 < (used l).getD (leastTo l i) 0 then i else leastTo l i
theorem leastTo_lt {l : List T_api_Bond} : ∀ {i : Nat}, i ≤ l.length → 0 < l.length → leastTo l i < l.length
  | 0, _, h => h
  | i + 1, hi, h => by
    unfold leastTo
    split
    · omega
    · exact leastTo_lt (by omega) h
theorem leastTo_le {l : List T_api_Bond} : ∀ {i q : Nat}, q < i → (used l).getD (leastTo l i) 0 ≤ (used l).getD q 0
  | 0, q, h => by omega
  | i + 1, q, h => by
    unfold leastTo
    split
    · rename_i h1
      by_cases hq : q = i
      · subst hq; exact Int.le_refl _
      · have := leastTo_le (l := l) (i := i) (q := q) (by omega)
        omega
    · rename_i h1
      by_cases hq : q = i
      · subst hq; omega
      · exact leastTo_le (by omega)
def addL (l : List T_api_Bond) (b : T_api_Bond) : List T_api_Bond × Nat :=
  match (nxt l).1.findIdx? (sameA b) with
  | some i => ((nxt l).1.set i { b with Used := (nxt l).2 }, i)
  | none => if (nxt l).1.length < 16 then ((nxt l).1 ++ [{ b with Used := (nxt l).2 }], (nxt l).1.length) else ((nxt l).1.set (leastTo (nxt l).1 (nxt l).1.length) { b with Used := (nxt l).2 }, leastTo (nxt l).1 (nxt l).1.length)
theorem add_j1 (F : Nat) (p : List T_api_Bond × Int) (b : T_api_Bond) (i : Nat) (hi : i < p.1.length) : bonds_Add_j1 F p b i = some (p.1.set i { b with Used := p.2 }, (i : Int), 0) := by
  unfold bonds_Add_j1 upd
  rw [idx_nat, List.getElem?_eq_getElem hi, Option.bind_some, if_pos (by omega), Option.bind_some]
  rfl
theorem add_ok (F : Nat) (l : List T_api_Bond) (b : T_api_Bond) (hF : 2000 < F) (h : Ok l) (hb : bonds_Check F b = some 0) (hs : b.Subs.length ≤ 1000) : bonds_Add F l b = some ((addL l b).1, ((addL l b).2 : Int), 0) := by
  have hl := h.len
  have hn := len_nat l
  unfold bonds_Add
  rw [if_neg (by simp; omega), hb, Option.bind_some, if_neg (by decide), nxt_ok F l hF h, Option.bind_some, own_ok F b hs, Option.bind_some]
  have hnl := nxt_len l
  have hsa : sameA { b with Used := (nxt l).2 } = sameA b := rfl
  rw [index_ok F _ _ hF (by omega), Option.bind_some, hsa]
  unfold addL
  have hm := len_nat (nxt l).1
  cases hf : (nxt l).1.findIdx? (sameA b) with
  | some k =>
    have hk : k < (nxt l).1.length := by
      have := List.findIdx?_eq_some_iff_getElem.1 hf
      exact this.1
    simp only
    rw [if_neg (by simp; omega), if_neg (by simp), add_j1 F _ _ _ hk]
  | none =>
    simp only
    by_cases h16 : (nxt l).1.length < 16
    · rw [if_pos (by simp; omega), if_pos h16, app_small (by simp; omega) (by omega), Option.bind_some]
      unfold lens
      rw [len_nat, List.length_map]
    · rw [if_neg (by simp; omega), if_neg h16, if_pos (by decide)]
      have := iter_count (body := fun s : Int × Int => bonds_Add_l1 F (nxt l) s.1 s.2) (fun i => ((leastTo (nxt l).1 i : Int), (i : Int))) (nxt l).1.length (leastTo (nxt l).1 (nxt l).1.length : Int) (fun i hi => by
        have hx : (nxt l).1[i]? = some (nxt l).1[i] := List.getElem?_eq_getElem hi
        have hlt := leastTo_lt (l := (nxt l).1) (i := i) (by omega) (by omega)
        have hy : (nxt l).1[leastTo (nxt l).1 i]? = some (nxt l).1[leastTo (nxt l).1 i] := List.getElem?_eq_getElem hlt
        show bonds_Add_l1 F (nxt l) _ _ = _
        unfold bonds_Add_l1 bonds_Add_j3 bonds_Add_j2
        rw [if_pos (by simp [len]; omega), idx_nat, hx, Option.bind_some, idx_nat, hy, Option.bind_some, w64_nat i (by omega)]
        show _ = some (Out.next (((leastTo (nxt l).1 (i + 1) : Nat) : Int), _))
        rw [leastTo, used_getD hx, used_getD hy]
        by_cases hc : (nxt l).1[i].Used < (nxt l).1[leastTo (nxt l).1 i].Used
        · rw [if_pos (by simpa using hc), if_pos hc]
        · rw [if_neg (by simpa using hc), if_neg hc]) (by
        show bonds_Add_l1 F (nxt l) _ _ = _
        unfold bonds_Add_l1
        rw [if_neg (by simp [len])]) F 0 (by omega) (by omega)
      rw [show ((0 : Nat) : Int) = 0 from rfl] at this
      show (iter (fun s : Int × Int => bonds_Add_l1 F (nxt l) s.1 s.2) F (((leastTo (nxt l).1 0 : Nat) : Int), 0)).bind _ = _
      rw [this, Option.bind_some, add_j1 F _ _ _ (leastTo_lt (by omega) (by omega))]
def touchL (l : List T_api_Bond) (i : Nat) : List T_api_Bond := match (nxt l).1[i]? with
  | some b => (nxt l).1.set i { b with Used := (nxt l).2 }
  | none => l
theorem touch_ok (F : Nat) (l : List T_api_Bond) (i : Nat) (hF : 2000 < F) (h : Ok l) (hi : i < l.length) : bonds_Touch F l i = some (touchL l i) := by
  have hl := h.len
  have hn := len_nat l
  unfold bonds_Touch touchL upd
  have hlt : i < (nxt l).1.length := by rw [nxt_len]; exact hi
  have hx : (nxt l).1[i]? = some (nxt l).1[i] := List.getElem?_eq_getElem hlt
  rw [if_neg (by simp; omega), nxt_ok F l hF h, Option.bind_some, idx_nat, hx, Option.bind_some, if_pos (by rw [nxt_len]; omega), Option.bind_some]
  rfl
theorem touch_out (F : Nat) (l : List T_api_Bond) (i : Int) (hF : 2000 < F) (h : Ok l) (hi : i < 0 ∨ i ≥ l.length) : bonds_Touch F l i = some l := by
  have hl := h.len
  have hn := len_nat l
  unfold bonds_Touch
  rw [if_pos (by simp; omega), clone_ok F l hF (by omega) h.few, Option.bind_some]
end V
end Go.Proofs.YtbdhonofhlpdoaaDoor
