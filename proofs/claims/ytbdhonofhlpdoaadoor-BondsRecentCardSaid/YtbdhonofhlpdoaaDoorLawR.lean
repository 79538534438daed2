/-
  BondsRecent: the law.
-/
import Derived.Test.YtbdhonofhlpdoaaDoorLawM
namespace Go.Proofs.YtbdhonofhlpdoaaDoor
namespace V
theorem lives_ok2 : wirelesslaw40_lives FF = some true := by kernel_rfl
theorem mem_set {α : Type} {l : List α} {i : Nat} {c x : α} (h : x ∈ l.set i c) : x = c ∨ x ∈ l := by
  rcases List.mem_or_eq_of_mem_set h with h | h
  · exact .inr h
  · exact .inl h
theorem nxt_mem {l : List T_api_Bond} (h : Ok l) {x : T_api_Bond} (hx : x ∈ (nxt l).1) : x.Subs.length ≤ 1000 ∧ 0 ≤ x.Used ∧ x.Used < (nxt l).2 := by
  obtain ⟨i, hi⟩ := List.getElem?_of_mem hx
  have hlt := (List.getElem?_eq_some_iff.1 hi).1
  rw [nxt_len] at hlt
  obtain ⟨u, k1, k2, k3⟩ := nxt_get h (List.getElem?_eq_getElem hlt)
  rw [k1] at hi
  injection hi with hi
  subst hi
  exact ⟨h.few l[i] (List.getElem_mem hlt), k2, k3⟩
theorem least_len {l : List T_api_Bond} (h : 0 < l.length) : leastTo l l.length < l.length := leastTo_lt (Nat.le_refl _) h
/-- What an addition gives. -/
theorem addL_ok {l : List T_api_Bond} (h : Ok l) {b : T_api_Bond} (hb : b.Subs.length ≤ 1000) :
    Ok (addL l b).1 ∧ (∃ c, (addL l b).1[(addL l b).2]? = some c ∧ c.Peer.Address = b.Peer.Address ∧ ∀ q x, q ≠ (addL l b).2 → (addL l b).1[q]? = some x → x.Used < c.Used) := by
  have hl := h.len
  have hnl := nxt_len l
  have hu := nxt_used h
  have hset : ∀ i, i < (nxt l).1.length → Ok ((nxt l).1.set i { b with Used := (nxt l).2 }) ∧ (∃ c, ((nxt l).1.set i { b with Used := (nxt l).2 })[i]? = some c ∧ c.Peer.Address = b.Peer.Address ∧ ∀ q x, q ≠ i → ((nxt l).1.set i { b with Used := (nxt l).2 })[q]? = some x → x.Used < c.Used) := fun i hi => by
    refine ⟨⟨by rw [List.length_set]; omega, fun x hx => ?_, fun x hx => ?_⟩, _, List.getElem?_set_self hi, rfl, fun q x hq hx => ?_⟩
    · rcases mem_set hx with rfl | hx
      · exact hb
      · exact (nxt_mem h hx).1
    · rcases mem_set hx with rfl | hx
      · show 0 ≤ (nxt l).2 ∧ (nxt l).2 ≤ 4294967295
        omega
      · have := nxt_mem h hx
        omega
    · rw [List.getElem?_set_ne (fun e => hq e.symm)] at hx
      exact (nxt_mem h (List.mem_of_getElem? hx)).2.2
  unfold addL
  cases hf : (nxt l).1.findIdx? (sameA b) with
  | some k =>
    have hk : k < (nxt l).1.length := (List.findIdx?_eq_some_iff_getElem.1 hf).1
    exact hset k hk
  | none =>
    simp only
    by_cases h16 : (nxt l).1.length < 16
    · rw [if_pos h16]
      refine ⟨⟨by simp; omega, fun x hx => ?_, fun x hx => ?_⟩, { b with Used := (nxt l).2 }, by simp, rfl, fun q x hq hx => ?_⟩
      · rcases List.mem_append.1 hx with hx | hx
        · exact (nxt_mem h hx).1
        · rw [List.mem_singleton] at hx
          subst hx
          exact hb
      · rcases List.mem_append.1 hx with hx | hx
        · have := nxt_mem h hx
          omega
        · rw [List.mem_singleton] at hx
          subst hx
          show 0 ≤ (nxt l).2 ∧ (nxt l).2 ≤ 4294967295
          omega
      · have hq2 : q < (nxt l).1.length := by
          have := (List.getElem?_eq_some_iff.1 hx).1
          simp at this
          simp at hq
          omega
        rw [List.getElem?_append_left hq2] at hx
        exact (nxt_mem h (List.mem_of_getElem? hx)).2.2
    · rw [if_neg h16]
      exact hset _ (least_len (by omega))
/-- What was used last stays. -/
theorem addL_keeps {l : List T_api_Bond} (h : Ok l) {c t : T_api_Bond} {r : Nat} (ht : l[r]? = some t) (htop : ∀ q x, q ≠ r → l[q]? = some x → x.Used < t.Used) : ∃ x ∈ (addL l c).1, x.Peer.Address = t.Peer.Address := by
  have hl := h.len
  have hnl := nxt_len l
  have hr := (List.getElem?_eq_some_iff.1 ht).1
  obtain ⟨u, k1, _, _⟩ := nxt_get h ht
  have hne : ∀ i (z : T_api_Bond), i ≠ r → ∃ x ∈ (nxt l).1.set i z, x.Peer.Address = t.Peer.Address := fun i z hi =>
    ⟨{ t with Used := u }, List.mem_of_getElem? (i := r) (by rw [List.getElem?_set_ne hi]; exact k1), rfl⟩
  unfold addL
  cases hf : (nxt l).1.findIdx? (sameA c) with
  | some k =>
    obtain ⟨hk, hs, _⟩ := List.findIdx?_eq_some_iff_getElem.1 hf
    by_cases hkr : k = r
    · subst hkr
      refine ⟨_, List.mem_of_getElem? (i := k) (List.getElem?_set_self hk), ?_⟩
      have hg := List.getElem?_eq_getElem hk
      rw [k1] at hg
      injection hg with hg
      rw [← hg] at hs
      exact (sameA_iff.1 hs).symm
    · exact hne k _ hkr
  | none =>
    simp only
    by_cases h16 : (nxt l).1.length < 16
    · rw [if_pos h16]
      exact ⟨_, List.mem_append_left _ (List.mem_of_getElem? k1), rfl⟩
    · rw [if_neg h16]
      refine hne _ _ fun e => ?_
      have hq : ∃ q, q < l.length ∧ q ≠ r := by
        by_cases h0 : r = 0
        · exact ⟨1, by omega, by omega⟩
        · exact ⟨0, by omega, by omega⟩
      obtain ⟨q, hq1, hq2⟩ := hq
      have hx : l[q]? = some l[q] := List.getElem?_eq_getElem hq1
      obtain ⟨v, k2, _, _⟩ := nxt_get h hx
      have h1 := nxt_lt hx ht (htop q _ hq2 hx) k2 k1
      have h2 := leastTo_le (l := (nxt l).1) (i := (nxt l).1.length) (q := q) (by omega)
      rw [e, used_getD k1, used_getD k2] at h2
      omega
theorem touchL_ok {l : List T_api_Bond} (h : Ok l) {i : Nat} {b : T_api_Bond} (hb : l[i]? = some b) : Ok (touchL l i) ∧ ∃ c, (touchL l i)[i]? = some c ∧ c.Peer.Address = b.Peer.Address ∧ ∀ q x, q ≠ i → (touchL l i)[q]? = some x → x.Used < c.Used := by
  have hl := h.len
  have hnl := nxt_len l
  have hu := nxt_used h
  obtain ⟨u, k1, _, _⟩ := nxt_get h hb
  have hlt := (List.getElem?_eq_some_iff.1 k1).1
  unfold touchL
  rw [k1]
  refine ⟨⟨by simp only [List.length_set]; omega, fun x hx => ?_, fun x hx => ?_⟩, _, List.getElem?_set_self hlt, rfl, fun q x hq hx => ?_⟩
  · rcases mem_set hx with rfl | hx
    · exact h.few b (List.mem_of_getElem? hb)
    · exact (nxt_mem h hx).1
  · rcases mem_set hx with rfl | hx
    · show 0 ≤ (nxt l).2 ∧ (nxt l).2 ≤ 4294967295
      omega
    · have := nxt_mem h hx
      omega
  · simp only at hx
    rw [List.getElem?_set_ne (fun e => hq e.symm)] at hx
    exact (nxt_mem h (List.mem_of_getElem? hx)).2.2
theorem key_ok (F : Nat) (l : List T_api_Bond) (a : T_api_Address) (k : Int) (hF : 2000 < F) (hl : l.length ≤ 1000) (h : ∃ x ∈ l, x.Peer.Address = a) : ∃ v, wirelesslaw40_key F l a k = some (true, v) := by
  unfold wirelesslaw40_key
  obtain ⟨o, h1, v, rfl⟩ := iter_by (body := fun s => wirelesslaw40_key_l1 F l a k s) (fun s => ∃ i : Nat, s = i ∧ i ≤ l.length ∧ ∀ q x, q < i → l[q]? = some x → x.Peer.Address ≠ a) (fun o => ∃ v, o = .inr (true, v)) (fun s => (l.length - s).toNat) (fun s hs => by
    obtain ⟨i, rfl, hi, hall⟩ := hs
    show (∃ s', wirelesslaw40_key_l1 F l a k _ = _ ∧ _) ∨ ∃ o, wirelesslaw40_key_l1 F l a k _ = _ ∧ _
    unfold wirelesslaw40_key_l1 wirelesslaw40_key_j2 wirelesslaw40_key_j3
    have hn := len_nat l
    have hil : i < l.length := by
      obtain ⟨x, hx, hxa⟩ := h
      obtain ⟨q, hq⟩ := List.getElem?_of_mem hx
      have := (List.getElem?_eq_some_iff.1 hq).1
      by_cases e : q < i
      · exact absurd hxa (hall q x e hq)
      · omega
    have hx : l[i]? = some l[i] := List.getElem?_eq_getElem hil
    rw [if_pos (by simp; omega), idx_nat, hx, Option.bind_some]
    by_cases hc : l[i].Peer.Address = a
    · rw [if_pos (by simp [hc]), Option.bind_some]
      exact .inr ⟨_, rfl, _, rfl⟩
    · rw [if_neg (fun e => hc (sameA_iff (c := { l[i] with Peer := { l[i].Peer with Address := a } }).1 e)), w64_nat i (by omega)]
      refine .inl ⟨_, rfl, ⟨i + 1, rfl, by omega, fun q x hq hx2 => ?_⟩, by omega⟩
      by_cases hqi : q < i
      · exact hall q x hqi hx2
      · have : q = i := by omega
        subst this
        rw [hx] at hx2
        injection hx2 with hx2
        subst hx2
        exact hc) F 0 ⟨0, rfl, by omega, fun q x hq => by omega⟩ (by simp; omega)
  rw [h1]
  exact ⟨v, rfl⟩
theorem ids_ok (F : Nat) (l : List T_api_Bond) (hF : 2000 < F) (hl : l.length ≤ 1000) : iter (fun s : List T_api_Identity × Int => bonds_Find_l1 F l s.1 s.2) F ([], 0) = some (l.map (·.Peer)) := by
  have := iter_count (body := fun s : List T_api_Identity × Int => bonds_Find_l1 F l s.1 s.2) (fun i => ((l.take i).map (·.Peer), (i : Int))) l.length (l.map (·.Peer)) (fun i hi => by
    have hx : l[i]? = some l[i] := List.getElem?_eq_getElem hi
    show bonds_Find_l1 F l _ _ = _
    unfold bonds_Find_l1
    rw [if_pos (by simp [len]; omega), idx_nat, hx, Option.bind_some, app_small (by simp; omega) (by omega), Option.bind_some, w64_nat i (by omega)]
    have : (l.take i).map (·.Peer) ++ [l[i].Peer] = (l.take (i + 1)).map (·.Peer) := by rw [List.take_add_one, hx, List.map_append]; rfl
    rw [this]) (by
    show bonds_Find_l1 F l _ _ = _
    unfold bonds_Find_l1
    rw [if_neg (by simp [len]), List.take_length]) F 0 (by omega) (by omega)
  rw [List.take_zero, show ((0 : Nat) : Int) = 0 from rfl] at this
  exact this
theorem find_ok (F : Nat) (l : List T_api_Bond) (a : T_api_Address) (hF : 2000 < F) (hl : l.length ≤ 1000) (hu : U64 a.Bits) (hc : chkA a = 0) (hk : a.Kind = 1 ∨ a.Kind = 2) (h : ∃ x ∈ l, x.Peer.Address = a) : ∃ k : Int, 0 ≤ k ∧ bonds_Find F l a = some k := by
  unfold bonds_Find bonds_Find_j1 privacy_Find
  rw [ids_ok F l hF hl, Option.bind_some, ucheck F a hu, hc, Option.bind_some, if_neg (by decide)]
  unfold slices_IndexFunc_api_Identity_api_Identity_at77
  obtain ⟨o, h1, k, h0, rfl⟩ := iter_by (body := fun s => slices_IndexFunc_api_Identity_api_Identity_at77_l1 F (l.map (·.Peer)) s.1 s.2) (fun s => ∃ i : Nat, s = (a, (i : Int)) ∧ i ≤ l.length ∧ ∀ q x, q < i → l[q]? = some x → x.Peer.Address ≠ a) (fun o => ∃ k, (0 : Int) ≤ k ∧ o = .inr (k, a)) (fun s => (l.length - s.2).toNat) (fun s hs => by
    obtain ⟨i, rfl, hi, hall⟩ := hs
    show (∃ s', slices_IndexFunc_api_Identity_api_Identity_at77_l1 F (l.map (·.Peer)) _ _ = _ ∧ _) ∨ ∃ o, slices_IndexFunc_api_Identity_api_Identity_at77_l1 F (l.map (·.Peer)) _ _ = _ ∧ _
    unfold slices_IndexFunc_api_Identity_api_Identity_at77_l1 privacy_Find_1
    have hn := len_nat (l.map (·.Peer))
    rw [List.length_map] at hn
    have hil : i < l.length := by
      obtain ⟨x, hx, hxa⟩ := h
      obtain ⟨q, hq⟩ := List.getElem?_of_mem hx
      have := (List.getElem?_eq_some_iff.1 hq).1
      by_cases e : q < i
      · exact absurd hxa (hall q x e hq)
      · omega
    have hx : l[i]? = some l[i] := List.getElem?_eq_getElem hil
    have hx' : (l.map (·.Peer))[i]? = some l[i].Peer := by rw [List.getElem?_map, hx]; rfl
    rw [if_pos (by simp; omega), idx_nat, hx', Option.bind_some]
    by_cases hc : l[i].Peer.Address = a
    · rw [if_pos (by simp [hc]), Option.bind_some, Option.bind_some, if_pos rfl]
      exact .inr ⟨_, rfl, _, by omega, rfl⟩
    · rw [if_neg (fun e => hc (sameA_iff (c := { l[i] with Peer := { l[i].Peer with Address := a } }).1 e))]
      unfold privacy_Resolves
      rw [if_pos (by simp; omega), Option.bind_some, if_pos rfl, Option.bind_some, Option.bind_some, Option.bind_some, if_neg (by simp), w64_nat i (by omega)]
      refine .inl ⟨_, rfl, ⟨i + 1, rfl, by omega, fun q x hq hx2 => ?_⟩, by simp only; omega⟩
      by_cases hqi : q < i
      · exact hall q x hqi hx2
      · have : q = i := by omega
        subst this
        rw [hx] at hx2
        injection hx2 with hx2
        subst hx2
        exact hc) F (a, 0) ⟨0, rfl, by omega, fun q x hq => by omega⟩ (by simp; omega)
  rw [h1]
  exact ⟨k, h0, rfl⟩
theorem same_ok (F : Nat) (l : List T_api_Bond) (hF : 2000 < F) (hl : l.length ≤ 1000) (hs : Few l) : wirelessref40_Same F l l = some true := by
  unfold wirelessref40_Same wirelessref40_Same_j1
  rw [if_neg (by simp)]
  have := iter_count (body := fun s => wirelessref40_Same_l1 F l l s) (fun i => (i : Int)) l.length (.inl ()) (fun i hi => by
    have hx : l[i]? = some l[i] := List.getElem?_eq_getElem hi
    show wirelessref40_Same_l1 F l l _ = _
    unfold wirelessref40_Same_l1 wirelessref40_Same_j2
    rw [if_pos (by simp [len]; omega), idx_nat, hx, Option.bind_some, Option.bind_some, same_bond F _ hF (hs _ (List.getElem_mem hi)), Option.bind_some, if_neg (by simp), w64_nat i (by omega)]) (by
    show wirelessref40_Same_l1 F l l _ = _
    unfold wirelessref40_Same_l1
    rw [if_neg (by simp [len])]) F 0 (by omega) (by omega)
  rw [show ((0 : Nat) : Int) = 0 from rfl] at this
  rw [this]
  rfl
theorem valid_in (F : Nat) (l : List T_api_Bond) (i : Nat) (hi : i < l.length) (hl : l.length ≤ 140737488355328) (hF : 140737488357000 < F) : ∃ o, iter (fun s => wirelessref40_Valid_l2 F l i s) F 0 = some o ∧ (o = .inl () ∨ o = .inr false) := by
  refine iter_by (body := fun s => wirelessref40_Valid_l2 F l i s) (fun s => ∃ k : Nat, s = k ∧ k ≤ i) _ (fun s => (i - s).toNat) (fun s hs => ?_) F 0 ⟨0, rfl, by omega⟩ (by simp; omega)
  obtain ⟨k, rfl, hk⟩ := hs
  show (∃ s', wirelessref40_Valid_l2 F l i _ = _ ∧ _) ∨ ∃ o, wirelessref40_Valid_l2 F l i _ = _ ∧ _
  unfold wirelessref40_Valid_l2 wirelessref40_Valid_j3
  by_cases hc : k < i
  · rw [if_pos (by simp; omega), idx_nat, List.getElem?_eq_getElem (by omega), Option.bind_some, idx_nat, List.getElem?_eq_getElem hi, Option.bind_some]
    split
    · exact .inr ⟨_, rfl, .inr rfl⟩
    · rw [w64_nat k (by omega)]
      exact .inl ⟨_, rfl, ⟨k + 1, rfl, by omega⟩, by omega⟩
  · rw [if_neg (by simp; omega)]
    exact .inr ⟨_, rfl, .inl rfl⟩
theorem valid_ok (F : Nat) (l : List T_api_Bond) (hr : ∀ b ∈ l, U64 b.Peer.Address.Bits) (hl : l.length ≤ 140737488355328) (hF : 140737488357000 < F) : ∃ v, wirelessref40_Valid F l = some v ∧ (v = true → l.length ≤ 16 ∧ ∀ b ∈ l, VB b) := by
  unfold wirelessref40_Valid wirelessref40_Valid_j1
  have hn := len_nat l
  obtain ⟨o, h1, h2⟩ := iter_by (body := fun s => wirelessref40_Valid_l1 F l s) (fun s => ∃ i : Nat, s = i ∧ i ≤ l.length ∧ ∀ q x, q < i → l[q]? = some x → VB x) (fun o => o = .inr false ∨ (o = .inl () ∧ ∀ b ∈ l, VB b)) (fun s => (l.length - s).toNat) (fun s hs => by
    obtain ⟨i, rfl, hi, hall⟩ := hs
    show (∃ s', wirelessref40_Valid_l1 F l _ = _ ∧ _) ∨ ∃ o, wirelessref40_Valid_l1 F l _ = _ ∧ _
    unfold wirelessref40_Valid_l1 wirelessref40_Valid_j2
    by_cases hc : i < l.length
    · have hx : l[i]? = some l[i] := List.getElem?_eq_getElem hc
      obtain ⟨e, k1, k2⟩ := check_ok F l[i] (by omega) (hr _ (List.getElem_mem hc))
      obtain ⟨o, k3, k4⟩ := valid_in F l i hc hl hF
      rw [if_pos (by simp; omega), idx_nat, hx, Option.bind_some, k1, Option.bind_some]
      by_cases he : e = 0
      · rw [if_neg (by simpa using he), k3, Option.bind_some]
        rcases k4 with rfl | rfl
        · simp only
          rw [w64_nat i (by omega)]
          refine .inl ⟨_, rfl, ⟨i + 1, rfl, by omega, fun q x hq hx2 => ?_⟩, by omega⟩
          by_cases hqi : q < i
          · exact hall q x hqi hx2
          · have : q = i := by omega
            subst this
            rw [hx] at hx2
            injection hx2 with hx2
            subst hx2
            exact k2.1 he
        · exact .inr ⟨_, rfl, .inl rfl⟩
      · rw [if_pos (by simpa using he)]
        exact .inr ⟨_, rfl, .inl rfl⟩
    · rw [if_neg (by simp; omega)]
      refine .inr ⟨_, rfl, .inr ⟨rfl, fun b hb => ?_⟩⟩
      obtain ⟨q, hq⟩ := List.getElem?_of_mem hb
      exact hall q b (by have := (List.getElem?_eq_some_iff.1 hq).1; omega) hq) F 0 ⟨0, rfl, by omega, fun q x hq => by omega⟩ (by simp; omega)
  rw [h1, Option.bind_some]
  rcases h2 with rfl | ⟨rfl, h2⟩
  · exact ⟨false, rfl, fun h => by cases h⟩
  · exact ⟨_, rfl, fun h => ⟨by rw [decide_eq_true_eq] at h; omega, h2⟩⟩
theorem add_bad (F : Nat) (l : List T_api_Bond) (b : T_api_Bond) (e : Int) (hF : 2000 < F) (h : Ok l) (hb : bonds_Check F b = some e) (he : e ≠ 0) : bonds_Add F l b = some (l, 0, e) := by
  have hl := h.len
  have hn := len_nat l
  unfold bonds_Add
  rw [if_neg (by simp; omega), hb, Option.bind_some, if_pos (by simpa using he), clone_ok F l hF (by omega) h.few, Option.bind_some]
theorem copy_ok' (F : Nat) (l : List T_api_Bond) (hF : 2000 < F) (h : Ok l) : wirelessref40_Copy F l = some l := copy_ok F l hF (by have := h.len; omega) h.few
theorem last_part (l : List T_api_Bond) (c : T_api_Bond) (i : Int) (h : Ok l) (hu : U64 c.Peer.Address.Bits) (hs : c.Subs.length ≤ 64) : wirelesslaw40_BondsRecent_j3 FF l c i false = some true := by
  have hF : 2000 < FF := by decide
  have hl := h.len
  have hn := len_nat l
  unfold wirelesslaw40_BondsRecent_j3
  rw [if_neg (by decide)]
  by_cases hi : i < 0 ∨ i ≥ l.length
  · rw [if_pos (by simp; omega)]
  rw [if_neg (by simp; omega), copy_ok' FF l hF h, Option.bind_some]
  obtain ⟨k, rfl⟩ := Int.eq_ofNat_of_zero_le (a := i) (by omega)
  have hk : k < l.length := by omega
  have hx : l[k]? = some l[k] := List.getElem?_eq_getElem hk
  obtain ⟨t1, t, t2, t3, t4⟩ := touchL_ok h hx
  rw [touch_ok FF l k hF h hk, Option.bind_some, copy_ok FF [c] hF (by simp) (by simp; omega), Option.bind_some, show idx [c] 0 = some c from rfl, Option.bind_some]
  obtain ⟨e, c1, c2⟩ := check_ok FF c hF hu
  rw [← check_same FF c hu] at c1
  unfold wirelesslaw40_BondsRecent_j4
  by_cases he : e = 0
  · subst he
    obtain ⟨x, x1, x2⟩ := addL_keeps t1 (c := c) t2 t4
    obtain ⟨v, v1⟩ := key_ok FF (addL (touchL l k) c).1 l[k].Peer.Address 0 hF (by have := (addL_ok t1 (b := c) (by omega)).1.len; omega) ⟨x, x1, x2.trans t3⟩
    rw [add_ok FF _ c hF t1 c1 (by omega), Option.bind_some, idx_nat, hx, Option.bind_some, v1, Option.bind_some]
    rfl
  · obtain ⟨v, v1⟩ := key_ok FF (touchL l k) l[k].Peer.Address 0 hF (by have := t1.len; omega) ⟨t, List.mem_of_getElem? t2, t3⟩
    rw [add_bad FF _ c e hF t1 c1 he, Option.bind_some, idx_nat, hx, Option.bind_some, v1, Option.bind_some]
    simp
theorem recent_law (l : List T_api_Bond) (b c : T_api_Bond) (i : Int) (hr : ∀ b ∈ l, U64 b.Peer.Address.Bits) (hl : l.length ≤ 140737488355328) (hb : U64 b.Peer.Address.Bits) (hc : U64 c.Peer.Address.Bits) : wirelesslaw40_BondsRecent FF l b c i = some true := by
  have hF : 2000 < FF := by decide
  unfold wirelesslaw40_BondsRecent
  rw [lives_ok2, Option.bind_some, if_neg (by decide)]
  obtain ⟨v, v1, v2⟩ := valid_ok FF l hr hl (by decide)
  rw [v1, Option.bind_some]
  by_cases hg : v = false ∨ b.Subs.length > 64 ∨ c.Subs.length > 64
  · rw [if_pos (by
      rcases hg with rfl | h | h
      · simp
      · simp [len_nat]; omega
      · simp [len_nat]; omega)]
  have hv : v = true := by
    cases v with
    | true => rfl
    | false => exact absurd (.inl rfl) hg
  rw [if_neg (by simp [len_nat, hv]; omega)]
  obtain ⟨w1, w2⟩ := v2 hv
  have h : Ok l := ⟨w1, fun b hb => by have := (w2 b hb).few; omega, fun b hb => (w2 b hb).used⟩
  have h64 : b.Subs.length ≤ 64 := by omega
  have h64' : c.Subs.length ≤ 64 := by omega
  rw [copy_ok' FF l hF h, Option.bind_some, copy_ok FF [b] hF (by simp) (by simp; omega), Option.bind_some, show idx [b] 0 = some b from rfl, Option.bind_some]
  obtain ⟨e, c1, c2⟩ := check_ok FF b hF hb
  rw [← check_same FF b hb] at c1
  unfold wirelesslaw40_BondsRecent_j1
  by_cases he : e = 0
  · subst he
    have hvb := c2.1 rfl
    obtain ⟨a1, t, a2, a3, a4⟩ := addL_ok h (b := b) (by omega)
    rw [add_ok FF l b hF h c1 (by omega), Option.bind_some, if_neg (by simp), idx_nat, a2, Option.bind_some, copy_ok' FF _ hF a1, Option.bind_some, copy_ok FF [c] hF (by simp) (by simp; omega), Option.bind_some, show idx [c] 0 = some c from rfl, Option.bind_some]
    obtain ⟨e2, d1, d2⟩ := check_ok FF c hF hc
    rw [← check_same FF c hc] at d1
    unfold wirelesslaw40_BondsRecent_j2
    by_cases he2 : e2 = 0
    · subst he2
      obtain ⟨y1, _⟩ := addL_ok a1 (b := c) (by omega)
      have hyl := y1.len
      obtain ⟨x, x1, x2⟩ := addL_keeps a1 (c := c) a2 a4
      obtain ⟨k, k1, k2⟩ := find_ok FF (addL (addL l b).1 c).1 t.Peer.Address hF (by omega) (by rw [a3]; exact hb) (by rw [a3]; exact hvb.adr) (by rw [a3]; exact hvb.kind) ⟨x, x1, x2⟩
      rw [add_ok FF _ c hF a1 d1 (by omega), Option.bind_some, if_pos (by simp), if_neg (by simp [len_nat]; omega), copy_ok' FF _ hF y1, Option.bind_some, k2, Option.bind_some, show decide (k < 0) = false from decide_eq_false (by omega)]
      exact last_part l c i h hc h64'
    · rw [add_bad FF _ c e2 hF a1 d1 he2, Option.bind_some, if_neg (by simpa using he2)]
      exact last_part l c i h hc h64'
  · rw [add_bad FF l b e hF h c1 he, Option.bind_some, if_pos (by simpa using he), same_ok FF l hF (by omega) h.few]
    rfl
end V
end Go.Proofs.YtbdhonofhlpdoaaDoor
