/-
  Lists of bonds: valid ones, equal ones, what an addition gives.
-/
import Derived.Test.YtbdhonofhlpdoaaDoorLawM
namespace Go.Proofs.YtbdhonofhlpdoaaDoor
namespace V
theorem lives_ok2 : wirelesslaw40_lives FF = some true := by kernel_rfl
theorem mem_set {α : Type} {l : List α} {i : Nat} {c x : α} (h : x ∈ l.set i c) : x = c ∨ x ∈ l := by
  rcases List.mem_or_eq_of_mem_set h with h | h
  · exact .inr h
  · exact .inl h
theorem nxt_mem {l : List T_api_Bond} (h : Ok l) {x : T_api_Bond} (hx : x ∈ (nxt l).1) : x.Subs.length ≤ 1000 ∧ 0 ≤ x.Used ∧ x.Used < (nxt l).2 := by
  obtain ⟨i, hi⟩ := List.getElem?_of_mem hx
  have hlt := (List.getElem?_eq_some_iff.1 hi).1
  rw [nxt_len] at hlt
  obtain ⟨u, k1, k2, k3⟩ := nxt_get h (List.getElem?_eq_getElem hlt)
  rw [k1] at hi
  injection hi with hi
  subst hi
  exact ⟨h.few l[i] (List.getElem_mem hlt), k2, k3⟩
theorem least_len {l : List T_api_Bond} (h : 0 < l.length) : leastTo l l.length < l.length := leastTo_lt (Nat.le_refl _) h
/-- What an addition gives. -/
theorem addL_ok {l : List T_api_Bond} (h : Ok l) {b : T_api_Bond} (hb : b.Subs.length ≤ 1000) :
    Ok (addL l b).1 ∧ (∃ c, (addL l b).1[(addL l b).2]? = some c ∧ c.Peer.Address = b.Peer.Address ∧ ∀ q x, q ≠ (addL l b).2 → (addL l b).1[q]? = some x → x.Used < c.Used) := by
  have hl := h.len
  have hnl := nxt_len l
  have hu := nxt_used h
  have hset : ∀ i, i < (nxt l).1.length → Ok ((nxt l).1.set i { b with Used := (nxt l).2 }) ∧ (∃ c, ((nxt l).1.set i { b with Used := (nxt l).2 })[i]? = some c ∧ c.Peer.Address = b.Peer.Address ∧ ∀ q x, q ≠ i → ((nxt l).1.set i { b with Used := (nxt l).2 })[q]? = some x → x.Used < c.Used) := fun i hi => by
    refine ⟨⟨by rw [List.length_set]; omega, fun x hx => ?_, fun x hx => ?_⟩, _, List.getElem?_set_self hi, rfl, fun q x hq hx => ?_⟩
    · rcases mem_set hx with rfl | hx
      · exact hb
      · exact (nxt_mem h hx).1
    · rcases mem_set hx with rfl | hx
      · show 0 ≤ (nxt l).2 ∧ (nxt l).2 ≤ 4294967295
        omega
      · have := nxt_mem h hx
        omega
    · rw [List.getElem?_set_ne (fun e => hq e.symm)] at hx
      exact (nxt_mem h (List.mem_of_getElem? hx)).2.2
  unfold addL
  cases hf : (nxt l).1.findIdx? (sameA b) with
  | some k =>
    have hk : k < (nxt l).1.length := (List.findIdx?_eq_some_iff_getElem.1 hf).1
    exact hset k hk
  | none =>
    simp only
    by_cases h16 : (nxt l).1.length < 16
    · rw [if_pos h16]
      refine ⟨⟨by simp; omega, fun x hx => ?_, fun x hx => ?_⟩, { b with Used := (nxt l).2 }, by simp, rfl, fun q x hq hx => ?_⟩
      · rcases List.mem_append.1 hx with hx | hx
        · exact (nxt_mem h hx).1
        · rw [List.mem_singleton] at hx
          subst hx
          exact hb
      · rcases List.mem_append.1 hx with hx | hx
        · have := nxt_mem h hx
          omega
        · rw [List.mem_singleton] at hx
          subst hx
          show 0 ≤ (nxt l).2 ∧ (nxt l).2 ≤ 4294967295
          omega
      · have hq2 : q < (nxt l).1.length := by
          have := (List.getElem?_eq_some_iff.1 hx).1
          simp at this
          simp at hq
          omega
        rw [List.getElem?_append_left hq2] at hx
        exact (nxt_mem h (List.mem_of_getElem? hx)).2.2
    · rw [if_neg h16]
      exact hset _ (least_len (by omega))
theorem touchL_ok {l : List T_api_Bond} (h : Ok l) {i : Nat} {b : T_api_Bond} (hb : l[i]? = some b) : Ok (touchL l i) ∧ ∃ c, (touchL l i)[i]? = some c ∧ c.Peer.Address = b.Peer.Address ∧ ∀ q x, q ≠ i → (touchL l i)[q]? = some x → x.Used < c.Used := by
  have hl := h.len
  have hnl := nxt_len l
  have hu := nxt_used h
  obtain ⟨u, k1, _, _⟩ := nxt_get h hb
  have hlt := (List.getElem?_eq_some_iff.1 k1).1
  unfold touchL
  rw [k1]
  refine ⟨⟨by simp only [List.length_set]; omega, fun x hx => ?_, fun x hx => ?_⟩, _, List.getElem?_set_self hlt, rfl, fun q x hq hx => ?_⟩
  · rcases mem_set hx with rfl | hx
    · exact h.few b (List.mem_of_getElem? hb)
    · exact (nxt_mem h hx).1
  · rcases mem_set hx with rfl | hx
    · show 0 ≤ (nxt l).2 ∧ (nxt l).2 ≤ 4294967295
      omega
    · have := nxt_mem h hx
      omega
  · simp only at hx
    rw [List.getElem?_set_ne (fun e => hq e.symm)] at hx
    exact (nxt_mem h (List.mem_of_getElem? hx)).2.2
theorem ids_ok (F : Nat) (l : List T_api_Bond) (hF : 2000 < F) (hl : l.length ≤ 1000) : iter (fun s : List T_api_Identity × Int => bonds_Find_l1 F l s.1 s.2) F ([], 0) = some (l.map (·.Peer)) := by
  have := iter_count (body := fun s : List T_api_Identity × Int => bonds_Find_l1 F l s.1 s.2) (fun i => ((l.take i).map (·.Peer), (i : Int))) l.length (l.map (·.Peer)) (fun i hi => by
    have hx : l[i]? = some l[i] := List.getElem?_eq_getElem hi
    show bonds_Find_l1 F l _ _ = _
    unfold bonds_Find_l1
    rw [if_pos (by simp [len]; omega), idx_nat, hx, Option.bind_some, app_small (by simp; omega) (by omega), Option.bind_some, w64_nat i (by omega)]
    have : (l.take i).map (·.Peer) ++ [l[i].Peer] = (l.take (i + 1)).map (·.Peer) := by rw [List.take_add_one, hx, List.map_append]; rfl
    rw [this]) (by
    show bonds_Find_l1 F l _ _ = _
    unfold bonds_Find_l1
    rw [if_neg (by simp [len]), List.take_length]) F 0 (by omega) (by omega)
  rw [List.take_zero, show ((0 : Nat) : Int) = 0 from rfl] at this
  exact this
theorem same_ok (F : Nat) (l : List T_api_Bond) (hF : 2000 < F) (hl : l.length ≤ 1000) (hs : Few l) : wirelessref40_Same F l l = some true := by
  unfold wirelessref40_Same wirelessref40_Same_j1
  rw [if_neg (by simp)]
  have := iter_count (body := fun s => wirelessref40_Same_l1 F l l s) (fun i => (i : Int)) l.length (.inl ()) (fun i hi => by
    have hx : l[i]? = some l[i] := List.getElem?_eq_getElem hi
    show wirelessref40_Same_l1 F l l _ = _
    unfold wirelessref40_Same_l1 wirelessref40_Same_j2
    rw [if_pos (by simp [len]; omega), idx_nat, hx, Option.bind_some, Option.bind_some, same_bond F _ hF (hs _ (List.getElem_mem hi)), Option.bind_some, if_neg (by simp), w64_nat i (by omega)]) (by
    show wirelessref40_Same_l1 F l l _ = _
    unfold wirelessref40_Same_l1
    rw [if_neg (by simp [len])]) F 0 (by omega) (by omega)
  rw [show ((0 : Nat) : Int) = 0 from rfl] at this
  rw [this]
  rfl
theorem valid_in (F : Nat) (l : List T_api_Bond) (i : Nat) (hi : i < l.length) (hl : l.length ≤ 140737488355328) (hF : 140737488357000 < F) : ∃ o, iter (fun s => wirelessref40_Valid_l2 F l i s) F 0 = some o ∧ (o = .inl () ∨ o = .inr false) := by
  refine iter_by (body := fun s => wirelessref40_Valid_l2 F l i s) (fun s => ∃ k : Nat, s = k ∧ k ≤ i) _ (fun s => (i - s).toNat) (fun s hs => ?_) F 0 ⟨0, rfl, by omega⟩ (by simp; omega)
  obtain ⟨k, rfl, hk⟩ := hs
  show (∃ s', wirelessref40_Valid_l2 F l i _ = _ ∧ _) ∨ ∃ o, wirelessref40_Valid_l2 F l i _ = _ ∧ _
  unfold wirelessref40_Valid_l2 wirelessref40_Valid_j3
  by_cases hc : k < i
  · rw [if_pos (by simp; omega), idx_nat, List.getElem?_eq_getElem (by omega), Option.bind_some, idx_nat, List.getElem?_eq_getElem hi, Option.bind_some]
    split
    · exact .inr ⟨_, rfl, .inr rfl⟩
    · rw [w64_nat k (by omega)]
      exact .inl ⟨_, rfl, ⟨k + 1, rfl, by omega⟩, by omega⟩
  · rw [if_neg (by simp; omega)]
    exact .inr ⟨_, rfl, .inl rfl⟩
theorem valid_ok (F : Nat) (l : List T_api_Bond) (hr : ∀ b ∈ l, U64 b.Peer.Address.Bits) (hl : l.length ≤ 140737488355328) (hF : 140737488357000 < F) : ∃ v, wirelessref40_Valid F l = some v ∧ (v = true → l.length ≤ 16 ∧ ∀ b ∈ l, VB b) := by
  unfold wirelessref40_Valid wirelessref40_Valid_j1
  have hn := len_nat l
  obtain ⟨o, h1, h2⟩ := iter_by (body := fun s => wirelessref40_Valid_l1 F l s) (fun s => ∃ i : Nat, s = i ∧ i ≤ l.length ∧ ∀ q x, q < i → l[q]? = some x → VB x) (fun o => o = .inr false ∨ (o = .inl () ∧ ∀ b ∈ l, VB b)) (fun s => (l.length - s).toNat) (fun s hs => by
    obtain ⟨i, rfl, hi, hall⟩ := hs
    show (∃ s', wirelessref40_Valid_l1 F l _ = _ ∧ _) ∨ ∃ o, wirelessref40_Valid_l1 F l _ = _ ∧ _
    unfold wirelessref40_Valid_l1 wirelessref40_Valid_j2
    by_cases hc : i < l.length
    · have hx : l[i]? = some l[i] := List.getElem?_eq_getElem hc
      obtain ⟨e, k1, k2⟩ := check_ok F l[i] (by omega) (hr _ (List.getElem_mem hc))
      obtain ⟨o, k3, k4⟩ := valid_in F l i hc hl hF
      rw [if_pos (by simp; omega), idx_nat, hx, Option.bind_some, k1, Option.bind_some]
      by_cases he : e = 0
      · rw [if_neg (by simpa using he), k3, Option.bind_some]
        rcases k4 with rfl | rfl
        · simp only
          rw [w64_nat i (by omega)]
          refine .inl ⟨_, rfl, ⟨i + 1, rfl, by omega, fun q x hq hx2 => ?_⟩, by omega⟩
          by_cases hqi : q < i
          · exact hall q x hqi hx2
          · have : q = i := by omega
            subst this
            rw [hx] at hx2
            injection hx2 with hx2
            subst hx2
            exact k2.1 he
        · exact .inr ⟨_, rfl, .inl rfl⟩
      · rw [if_pos (by simpa using he)]
        exact .inr ⟨_, rfl, .inl rfl⟩
    · rw [if_neg (by simp; omega)]
      refine .inr ⟨_, rfl, .inr ⟨rfl, fun b hb => ?_⟩⟩
      obtain ⟨q, hq⟩ := List.getElem?_of_mem hb
      exact hall q b (by have := (List.getElem?_eq_some_iff.1 hq).1; omega) hq) F 0 ⟨0, rfl, by omega, fun q x hq => by omega⟩ (by simp; omega)
  rw [h1, Option.bind_some]
  rcases h2 with rfl | ⟨rfl, h2⟩
  · exact ⟨false, rfl, fun h => by cases h⟩
  · exact ⟨_, rfl, fun h => ⟨by rw [decide_eq_true_eq] at h; omega, h2⟩⟩
theorem add_bad (F : Nat) (l : List T_api_Bond) (b : T_api_Bond) (e : Int) (hF : 2000 < F) (h : Ok l) (hb : bonds_Check F b = some e) (he : e ≠ 0) : bonds_Add F l b = some (l, 0, e) := by
  have hl := h.len
  have hn := len_nat l
  unfold bonds_Add
  rw [if_neg (by simp; omega), hb, Option.bind_some, if_pos (by simpa using he), clone_ok F l hF (by omega) h.few, Option.bind_some]
theorem copy_ok' (F : Nat) (l : List T_api_Bond) (hF : 2000 < F) (h : Ok l) : wirelessref40_Copy F l = some l := copy_ok F l hF (by have := h.len; omega) h.few
end V
end Go.Proofs.YtbdhonofhlpdoaaDoor
