/-
  BondsChanges: the law.
-/
import Derived.Test.YtbdhonofhlpdoaaDoorLawS
import Derived.Test.YtbdhonofhlpdoaaDoorLawH
namespace Go.Proofs.YtbdhonofhlpdoaaDoor
namespace V
/-! ### Whose address it is -/
theorem hash_same (F : Nat) {k x : Int} (hk : I64 k) (hx : I64 x) (hF : 1000000020 < F) : ∃ y, privacy_hash F k x = some y ∧ wirelessref09_Hash F k x = some y := by
  obtain ⟨y, h1, h2, h3⟩ := derive_same F hk x hx hF
  refine ⟨y % 16777216, ?_, ?_⟩
  · unfold privacy_hash
    rw [h1, Option.bind_some]
    have e := iand_mask y 24 16777215 (by decide) (by decide) h3.1 h3.2
    rw [show ((16777215 : Nat) : Int) = 16777215 from rfl] at e
    rw [e]
    rfl
  · unfold wirelessref09_Hash
    rw [h2, Option.bind_some]
    unfold remp
    rw [Int.tmod_eq_emod_of_nonneg h3.1]
theorem resolves_same (F : Nat) {k : Int} (a : T_api_Address) (hk : I64 k) (ha : U64 a.Bits) (hF : 1000000020 < F) : ∃ v, privacy_Resolves F k a = some v ∧ wirelessref09_Resolves F k a = some v := by
  obtain ⟨a0, a1⟩ := ha
  unfold privacy_Resolves wirelessref09_Resolves
  rw [ucheck F a ⟨a0, a1⟩, rcheck F a ⟨a0, a1⟩]
  by_cases h1 : k = 0 ∨ a.Kind ≠ 3
  · rw [if_pos (by simpa using h1)]
    exact ⟨false, rfl, rfl⟩
  rw [if_neg (by simpa using h1), Option.bind_some, Option.bind_some, Option.bind_some]
  by_cases h2 : chkA a = 0
  · rw [if_neg (by simpa using h2), if_neg (by simpa using h2)]
    have e1 : iand .u64 (shrp a.Bits 24) 4194303 = a.Bits / 16777216 % 4194304 := by
      have h3 : shrp a.Bits 24 = a.Bits / 16777216 := shrp_div _ 24
      rw [h3]
      have e := iand_mask (a.Bits / 16777216) 22 4194303 (by decide) (by decide) (by omega) (by omega)
      rw [show ((4194303 : Nat) : Int) = 4194303 from rfl] at e
      rw [e]
      rfl
    have e2 : remp (quop .u64 a.Bits 16777216) 4194304 = a.Bits / 16777216 % 4194304 := by
      unfold remp quop
      rw [Int.tdiv_eq_ediv_of_nonneg a0, wrap_u64, wu64_id (by omega) (by omega), Int.tmod_eq_emod_of_nonneg (by omega)]
    have e3 : iand .u64 a.Bits 16777215 = a.Bits % 16777216 := by
      have e := iand_mask a.Bits 24 16777215 (by decide) (by decide) a0 a1
      rw [show ((16777215 : Nat) : Int) = 16777215 from rfl] at e
      rw [e]
      rfl
    have e4 : remp a.Bits 16777216 = a.Bits % 16777216 := Int.tmod_eq_emod_of_nonneg a0
    obtain ⟨y, k1, k2⟩ := hash_same F hk (x := a.Bits / 16777216 % 4194304) ⟨by omega, by omega⟩ hF
    rw [e1, e2, e3, e4, k1, k2, Option.bind_some, Option.bind_some]
    exact ⟨_, rfl, rfl⟩
  · rw [if_pos (by simpa using h2), if_pos (by simpa using h2)]
    exact ⟨false, rfl, rfl⟩
theorem ids_ok_r (F : Nat) (l : List T_api_Bond) (hF : 2000 < F) (hl : l.length ≤ 1000) : iter (fun s : List T_api_Identity × Int => wirelessref40_Find_l1 F l s.1 s.2) F ([], 0) = some (l.map (·.Peer)) := ids_ok F l hF hl
theorem find_same (F : Nat) (l : List T_api_Bond) (a : T_api_Address) (hl : l.length ≤ 1000) (hk : ∀ b ∈ l, U64 b.Peer.IRK) (ha : U64 a.Bits) (hF : 1000000020 < F) : ∃ v, bonds_Find F l a = some v ∧ wirelessref40_Find F l a = some v := by
  unfold bonds_Find wirelessref40_Find bonds_Find_j1 wirelessref40_Find_j1 privacy_Find wirelessref09_Find
  rw [ids_ok F l (by omega) hl, ids_ok_r F l (by omega) hl, Option.bind_some, Option.bind_some, ucheck F a ha, rcheck F a ha, Option.bind_some, Option.bind_some]
  by_cases h1 : chkA a = 0
  · rw [if_neg (by simpa using h1), if_neg (by simpa using h1)]
    unfold slices_IndexFunc_api_Identity_api_Identity_at77
    obtain ⟨o1, o2, k1, k2, k3⟩ := iter_sim (b1 := fun s : T_api_Address × Int => slices_IndexFunc_api_Identity_api_Identity_at77_l1 F (l.map (·.Peer)) s.1 s.2) (b2 := fun s : Int => wirelessref09_Find_l1 F (l.map (·.Peer)) a s)
      (fun s t => s = (a, t) ∧ ∃ i : Nat, t = (i : Int) ∧ i ≤ l.length) (fun p q => (p = .inl a ∧ q = .inl ()) ∨ ∃ k : Int, p = .inr (k, a) ∧ q = .inr k) (fun s => (l.length - s.2).toNat) (by
      rintro _ _ ⟨rfl, i, rfl, hi⟩
      show (∃ t1 t2, slices_IndexFunc_api_Identity_api_Identity_at77_l1 F (l.map (·.Peer)) a (i : Int) = some (.next t1) ∧ wirelessref09_Find_l1 F (l.map (·.Peer)) a (i : Int) = some (.next t2) ∧ _) ∨ ∃ o1 o2, slices_IndexFunc_api_Identity_api_Identity_at77_l1 F (l.map (·.Peer)) a (i : Int) = some (.done o1) ∧ wirelessref09_Find_l1 F (l.map (·.Peer)) a (i : Int) = some (.done o2) ∧ _
      unfold slices_IndexFunc_api_Identity_api_Identity_at77_l1 wirelessref09_Find_l1 privacy_Find_1 wirelessref09_Find_j2
      have hn := len_nat (l.map (·.Peer))
      rw [List.length_map] at hn
      by_cases hil : i < l.length
      · have hx' : (l.map (·.Peer))[i]? = some l[i].Peer := by rw [List.getElem?_map, List.getElem?_eq_getElem hil]; rfl
        rw [if_pos (dt (by omega)), if_pos (dt (by omega)), idx_nat, hx', Option.bind_some, Option.bind_some]
        by_cases hc : ((l[i].Peer.Address.Kind == a.Kind) && (l[i].Peer.Address.Bits == a.Bits)) = true
        · rw [if_pos hc, if_pos hc, Option.bind_some, Option.bind_some]
          exact .inr ⟨_, _, rfl, rfl, .inr ⟨_, rfl, rfl⟩⟩
        · rw [if_neg hc, if_neg hc]
          obtain ⟨v, r1, r2⟩ := resolves_same F a (hk _ (List.getElem_mem hil)) ha hF
          rw [r1, Option.bind_some, Option.bind_some, Option.bind_some, Option.bind_some, r2, Option.bind_some]
          cases v with
          | true => exact .inr ⟨_, _, rfl, rfl, .inr ⟨_, rfl, rfl⟩⟩
          | false =>
            rw [w64_nat i (by omega)]
            exact .inl ⟨_, _, rfl, rfl, ⟨rfl, i + 1, rfl, by omega⟩, by simp only; omega⟩
      · rw [if_neg (df (by omega)), if_neg (df (by omega))]
        exact .inr ⟨_, _, rfl, rfl, .inl ⟨rfl, rfl⟩⟩) F (a, 0) 0 ⟨rfl, 0, rfl, by omega⟩ (by simp only; omega)
    rw [k1, k2, Option.bind_some, Option.bind_some]
    rcases k3 with ⟨rfl, rfl⟩ | ⟨k, rfl, rfl⟩
    · exact ⟨-1, rfl, rfl⟩
    · exact ⟨k, rfl, rfl⟩
  · rw [if_pos (by simpa using h1), if_pos (by simpa using h1)]
    exact ⟨-1, rfl, rfl⟩
/-! ### Room for one more use -/
theorem cnt {p : Nat → Bool} {i : Nat} : ∀ m, (∀ k, k < m → k ≠ i → p k = true) → m ≤ (List.range m).countP p + 1 ∧ (m ≤ i → m ≤ (List.range m).countP p)
  | 0, _ => ⟨Nat.zero_le _, fun _ => Nat.zero_le _⟩
  | m + 1, h => by
    obtain ⟨h1, h2⟩ := cnt m fun k hk => h k (by omega)
    rw [List.range_succ, List.countP_append, List.countP_singleton]
    by_cases hm : m = i
    · subst hm
      have := h2 (Nat.le_refl _)
      constructor
      · omega
      · intro h; omega
    · rw [h m (by omega) hm]
      simp only [if_true]
      constructor
      · omega
      · intro h; have := h2 (by omega); omega
theorem top_ex (us : List Int) : ∀ m, ∃ i, i < m + 1 ∧ ∀ k, k < m + 1 → k ≠ i → before us k i = true
  | 0 => ⟨0, by omega, fun k h1 h2 => by omega⟩
  | m + 1 => by
    obtain ⟨i, h1, h2⟩ := top_ex us m
    by_cases hb : before us i (m + 1) = true
    · refine ⟨m + 1, by omega, fun k hk hne => ?_⟩
      by_cases e : k = i
      · subst e; exact hb
      · exact before_trans (h2 k (by omega) e) hb
    · refine ⟨i, by omega, fun k hk hne => ?_⟩
      by_cases e : k = m + 1
      · subst e
        rw [before_iff] at hb ⊢
        omega
      · exact h2 k (by omega) hne
theorem great_rk_eq {l : List T_api_Bond} (h : 0 < l.length) : great (rk l) + 1 = l.length := by
  have hul : (used l).length = l.length := by unfold used; simp
  have h1 : great (rk l) ≤ (l.length : Int) - 1 := by
    refine great_lt (by omega) fun b hb => ?_
    obtain ⟨i, hi⟩ := List.getElem?_of_mem hb
    have hlt := (List.getElem?_eq_some_iff.1 hi).1
    rw [rk_len] at hlt
    rw [rk_get (List.getElem?_eq_getElem hlt)] at hi
    injection hi with hi
    subst hi
    have := rank_len (us := used l) (i := i) (by omega)
    show ((rank (used l) i : Nat) : Int) ≤ _
    omega
  obtain ⟨i, k1, k2⟩ := top_ex (used l) (l.length - 1)
  rw [show l.length - 1 + 1 = l.length by omega] at k1 k2
  have h2 := (cnt (p := fun k => before (used l) k i) (i := i) l.length k2).1
  have h3 : great (rk l) ≥ (rank (used l) i : Int) := great_le (b := { l[i] with Used := (rank (used l) i : Int) }) (List.mem_of_getElem? (rk_get (List.getElem?_eq_getElem k1)))
  have h4 : rank (used l) i = (List.range l.length).countP fun k => before (used l) k i := by unfold rank; rw [hul]
  omega
theorem rank_r (F : Nat) (l : List T_api_Bond) (i : Nat) (hF : 2000 < F) (hl : l.length ≤ 1000) (hi : i < l.length) : iter (fun s : Int × Int => wirelessref40_recent_l3 F l i s.1 s.2) F (0, 0) = some (rank (used l) i : Int) := by
  have hb : l[i]? = some l[i] := List.getElem?_eq_getElem hi
  have hle : ∀ k, k ≤ l.length → (List.range k).countP (fun k => before (used l) k i) ≤ 1000 := fun k hk => by
    have := List.countP_le_length (p := fun k => before (used l) k i) (l := List.range k)
    rw [List.length_range] at this
    omega
  have := iter_count (body := fun s : Int × Int => wirelessref40_recent_l3 F l i s.1 s.2) (fun k => (((List.range k).countP (fun k => before (used l) k i) : Nat), (k : Int))) l.length (rank (used l) i : Int) (fun k hk => by
    have hx : l[k]? = some l[k] := List.getElem?_eq_getElem hk
    have h1 := hle k (by omega)
    show wirelessref40_recent_l3 F l i _ _ = _
    unfold wirelessref40_recent_l3 wirelessref40_recent_j7 wirelessref40_recent_j6
    rw [if_pos (by simp [len]; omega)]
    simp only [idx_nat, hx, hb, Option.bind_some]
    rw [w64_nat k (by omega), w64_nat _ (by omega), List.range_succ, List.countP_append, List.countP_singleton]
    have e : before (used l) k i = ((decide (l[k].Used < l[i].Used)) || ((l[k].Used == l[i].Used) && (decide ((k : Int) < (i : Int))))) := by
      unfold before
      rw [used_getD hx, used_getD hb]
      congr 2
      exact decide_eq_decide.2 (by omega)
    rw [e]
    by_cases hc : l[k].Used < l[i].Used
    · rw [if_pos (by simpa using hc), decide_eq_true hc]
      rfl
    · rw [if_neg (by simpa using hc), decide_eq_false hc, Bool.false_or]
      cases ((l[k].Used == l[i].Used) && (decide ((k : Int) < (i : Int)))) <;> rfl) (by
    show wirelessref40_recent_l3 F l i _ _ = _
    unfold wirelessref40_recent_l3
    rw [if_neg (by simp [len])]
    unfold rank
    rw [show (used l).length = l.length by unfold used; simp]) F 0 (by omega) (by omega)
  exact this
def ranks (l : List T_api_Bond) (n : Nat) : List Int := (List.range n).map fun i => (rank (used l) i : Int)
theorem recent_ok (F : Nat) (l : List T_api_Bond) (hF : 2000 < F) (h : Ok l) : wirelessref40_recent F l = some (nxt l) := by
  have hl := h.len
  have hn := len_nat l
  unfold wirelessref40_recent
  rw [copy_ok' F l hF h, Option.bind_some]
  have hg : iter (fun s : Int × Int => wirelessref40_recent_l4 F l s.1 s.2) F (0, 0) = some (great l) := by
    have := great_ok F l hF (by omega)
    unfold bonds_greatest bonds_greatest_j1 at this
    have h2 : iter (fun s : Int × Int => bonds_greatest_l1 F l s.1 s.2) F (0, 0) = some (great l) := by
      cases hi : iter (fun s : Int × Int => bonds_greatest_l1 F l s.1 s.2) F (0, 0) with
      | none => rw [hi] at this; cases this
      | some g => rw [hi] at this; exact this
    exact h2
  rw [hg, Option.bind_some]
  unfold wirelessref40_recent_j1 nxt
  by_cases h0 : l.length = 0
  · have : l = [] := List.length_eq_zero_iff.1 h0
    subst this
    rfl
  rw [if_neg (by simp; omega)]
  have hgm := great_lt (m := 4294967295) (by omega) fun b hb => (h.used b hb).2
  have hg0 := great_nonneg l
  by_cases hc : great l ≥ 4294967295
  · rw [if_neg (by simpa using hc), if_pos hc]
    have h2 := iter_count (body := fun s : List Int × Int => wirelessref40_recent_l2 F l s.1 s.2) (fun i => (ranks l i, (i : Int))) l.length (ranks l l.length) (fun i hi => by
      show wirelessref40_recent_l2 F l _ _ = _
      unfold wirelessref40_recent_l2 wirelessref40_recent_j5 wirelessref40_recent_j4
      rw [if_pos (by simp [len]; omega), rank_r F l i hF (by omega) hi, Option.bind_some, app_small (by unfold ranks; simp; omega) (by omega), Option.bind_some, w64_nat i (by omega)]
      unfold ranks
      rw [List.range_succ, List.map_append]
      rfl) (by
      show wirelessref40_recent_l2 F l _ _ = _
      unfold wirelessref40_recent_l2
      rw [if_neg (by simp [len])]) F 0 (by omega) (by omega)
    have h3 : iter (fun s : List Int × Int => wirelessref40_recent_l2 F l s.1 s.2) F ([], 0) = some (ranks l l.length) := h2
    rw [h3, Option.bind_some]
    unfold wirelessref40_recent_j2 wirelessref40_recent_j3
    have h4 := iter_count (body := fun s : List T_api_Bond × Int => wirelessref40_recent_l1 F (ranks l l.length) s.1 s.2) (fun i => (rkTo l i, (i : Int))) l.length (rk l) (fun i hi => by
      have hx : l[i]? = some l[i] := List.getElem?_eq_getElem hi
      obtain ⟨r1, r2⟩ := rkTo_step hx
      have hr : (ranks l l.length)[i]? = some (rank (used l) i : Int) := by
        unfold ranks
        rw [List.getElem?_map, List.getElem?_range hi]
        rfl
      show wirelessref40_recent_l1 F (ranks l l.length) _ _ = _
      unfold wirelessref40_recent_l1 upd
      rw [if_pos (by simp [len, rkTo_len]; omega), idx_nat, hr, Option.bind_some, idx_nat, r1, Option.bind_some, if_pos (by rw [rkTo_len]; omega), Option.bind_some, w64_nat i (by omega)]
      show some (Out.next ((rkTo l i).set i _, _)) = _
      rw [r2]) (by
      show wirelessref40_recent_l1 F (ranks l l.length) _ _ = _
      unfold wirelessref40_recent_l1
      rw [if_neg (by simp [len, rkTo_len]), rkTo_all]) F 0 (by omega) (by omega)
    rw [rkTo_zero, show ((0 : Nat) : Int) = 0 from rfl] at h4
    rw [h4, Option.bind_some, len_nat, rk_len, great_rk_eq (by omega)]
  · rw [if_pos (by simp; omega), if_neg hc, w64_id (by omega) (by omega)]
/-! ### The reference's lists -/
theorem add_r (F : Nat) (l : List T_api_Bond) (b : T_api_Bond) (hF : 2000 < F) (h : Ok l) (hb : wirelessref40_Check F b = some 0) (hs : b.Subs.length ≤ 1000) : wirelessref40_Add F l b = some ((addL l b).1, ((addL l b).2 : Int), 0) := by
  have hl := h.len
  have hn := len_nat l
  have hnl := nxt_len l
  have hm := len_nat (nxt l).1
  unfold wirelessref40_Add
  rw [if_neg (by simp; omega), hb, Option.bind_some, if_neg (by decide), recent_ok F l hF h, Option.bind_some, copy_ok F [b] hF (by simp) (by simp; omega), Option.bind_some, show idx [b] 0 = some b from rfl, Option.bind_some]
  obtain ⟨o, k1, k2⟩ := iter_by (body := fun s : Int × Int => wirelessref40_Add_l1 F (nxt l) b s.1 s.2) (fun s => ∃ i : Nat, s = ((leastTo (nxt l).1 i : Int), (i : Int)) ∧ i ≤ (nxt l).1.length ∧ ∀ q x, q < i → (nxt l).1[q]? = some x → sameA b x = false)
    (fun o => (∃ k, (nxt l).1.findIdx? (sameA b) = some k ∧ o = .inr ((nxt l).1.set k { b with Used := (nxt l).2 }, (k : Int), 0)) ∨ ((nxt l).1.findIdx? (sameA b) = none ∧ o = .inl (leastTo (nxt l).1 (nxt l).1.length : Int))) (fun s => ((nxt l).1.length - s.2).toNat) (fun s hs => by
    obtain ⟨i, rfl, hi, hall⟩ := hs
    show (∃ s', wirelessref40_Add_l1 F (nxt l) b _ _ = _ ∧ _) ∨ ∃ o, wirelessref40_Add_l1 F (nxt l) b _ _ = _ ∧ _
    unfold wirelessref40_Add_l1 wirelessref40_Add_j3 wirelessref40_Add_j4 wirelessref40_Add_j2 upd
    by_cases hc : i < (nxt l).1.length
    · have hx : (nxt l).1[i]? = some (nxt l).1[i] := List.getElem?_eq_getElem hc
      have hlt := leastTo_lt (l := (nxt l).1) (i := i) (by omega) (by omega)
      have hy : (nxt l).1[leastTo (nxt l).1 i]? = some (nxt l).1[leastTo (nxt l).1 i] := List.getElem?_eq_getElem hlt
      rw [if_pos (dt (by omega))]
      simp only [idx_nat, hx, hy, Option.bind_some]
      show (∃ s', (if sameA b (nxt l).1[i] = true then _ else _) = _ ∧ _) ∨ ∃ o, (if sameA b (nxt l).1[i] = true then _ else _) = _ ∧ _
      by_cases hsa : sameA b (nxt l).1[i] = true
      · rw [if_pos hsa, if_pos (by omega), Option.bind_some]
        refine .inr ⟨_, rfl, .inl ⟨i, ?_, rfl⟩⟩
        rw [List.findIdx?_eq_some_iff_getElem]
        refine ⟨hc, hsa, fun j hj => ?_⟩
        have := hall j _ hj (List.getElem?_eq_getElem (by omega))
        simp [this]
      · rw [if_neg hsa, w64_nat i (by omega)]
        have hnext : ∀ q x, q < i + 1 → (nxt l).1[q]? = some x → sameA b x = false := fun q x hq hx2 => by
          by_cases hqi : q < i
          · exact hall q x hqi hx2
          · have : q = i := by omega
            subst this
            rw [hx] at hx2
            injection hx2 with hx2
            subst hx2
            simpa using hsa
        by_cases hlu : (nxt l).1[i].Used < (nxt l).1[leastTo (nxt l).1 i].Used
        · rw [if_pos (by simpa using hlu)]
          refine .inl ⟨_, rfl, ⟨i + 1, ?_, by omega, hnext⟩, by simp only; omega⟩
          rw [leastTo, used_getD hx, used_getD hy, if_pos hlu]
        · rw [if_neg (by simpa using hlu)]
          refine .inl ⟨_, rfl, ⟨i + 1, ?_, by omega, hnext⟩, by simp only; omega⟩
          rw [leastTo, used_getD hx, used_getD hy, if_neg hlu]
    · rw [if_neg (df (by omega))]
      have : i = (nxt l).1.length := by omega
      subst this
      refine .inr ⟨_, rfl, .inr ⟨?_, rfl⟩⟩
      rw [List.findIdx?_eq_none_iff]
      intro x hx
      obtain ⟨q, hq⟩ := List.getElem?_of_mem hx
      exact hall q x (List.getElem?_eq_some_iff.1 hq).1 hq) F (0, 0) ⟨0, rfl, by omega, fun q x hq => by omega⟩ (by simp; omega)
  rw [k1, Option.bind_some]
  unfold addL
  rcases k2 with ⟨k, k3, rfl⟩ | ⟨k3, rfl⟩
  · rw [k3]
  · rw [k3]
    simp only
    unfold wirelessref40_Add_j1
    by_cases h16 : (nxt l).1.length < 16
    · rw [if_pos (by simp; omega), if_pos h16, app_small (by simp; omega) (by omega), Option.bind_some]
      unfold lens
      rw [len_nat, List.length_map]
    · have hlt := leastTo_lt (l := (nxt l).1) (i := (nxt l).1.length) (by omega) (by omega)
      unfold upd
      rw [if_neg (by simp; omega), if_neg h16, idx_nat, List.getElem?_eq_getElem hlt, Option.bind_some, if_pos (by omega), Option.bind_some]
      rfl
theorem add_bad_r (F : Nat) (l : List T_api_Bond) (b : T_api_Bond) (e : Int) (hF : 2000 < F) (h : Ok l) (hb : wirelessref40_Check F b = some e) (he : e ≠ 0) : wirelessref40_Add F l b = some (l, 0, e) := by
  have hl := h.len
  have hn := len_nat l
  unfold wirelessref40_Add
  rw [if_neg (by simp; omega), hb, Option.bind_some, if_pos (by simpa using he), copy_ok' F l hF h, Option.bind_some]
theorem touch_r (F : Nat) (l : List T_api_Bond) (i : Nat) (hF : 2000 < F) (h : Ok l) (hi : i < l.length) : wirelessref40_Touch F l i = some (touchL l i) := by
  have hl := h.len
  have hn := len_nat l
  unfold wirelessref40_Touch touchL upd
  have hlt : i < (nxt l).1.length := by rw [nxt_len]; exact hi
  have hx : (nxt l).1[i]? = some (nxt l).1[i] := List.getElem?_eq_getElem hlt
  rw [if_neg (by simp; omega), recent_ok F l hF h, Option.bind_some, idx_nat, hx, Option.bind_some, if_pos (by rw [nxt_len]; omega), Option.bind_some]
  rfl
theorem touch_out_r (F : Nat) (l : List T_api_Bond) (i : Int) (hF : 2000 < F) (h : Ok l) (hi : i < 0 ∨ i ≥ l.length) : wirelessref40_Touch F l i = some l := by
  have hl := h.len
  have hn := len_nat l
  unfold wirelessref40_Touch
  rw [if_pos (by simp; omega), copy_ok' F l hF h, Option.bind_some]
theorem remove_both (F : Nat) (l : List T_api_Bond) (i : Int) (hF : 2000 < F) (h : Ok l) : ∃ m e, bonds_Remove F l i = some (m, e) ∧ wirelessref40_Remove F l i = some (m, e) ∧ m.length ≤ 1000 ∧ Few m := by
  have hl := h.len
  have hn := len_nat l
  unfold bonds_Remove wirelessref40_Remove wirelessref40_Remove_j1 slices_Delete_api_Bond_api_Bond
  rw [clone_ok F l hF (by omega) h.few, copy_ok' F l hF h, Option.bind_some, Option.bind_some, Option.bind_some]
  by_cases hi : i < 0 ∨ i ≥ l.length
  · rw [if_pos (by simp; omega), if_pos (by simp; omega)]
    exact ⟨l, 5, rfl, rfl, by omega, h.few⟩
  obtain ⟨k, rfl⟩ := Int.eq_ofNat_of_zero_le (a := i) (by omega)
  have s1 := sub_nat l 0 k (by omega) (by omega)
  have s2 := sub_nat l (k + 1) l.length (by omega) (by omega)
  rw [show ((0 : Nat) : Int) = 0 from rfl] at s1
  rw [if_neg (by simp; omega), w64_nat k (by omega), if_pos (by omega), Option.bind_some, if_neg (by simp; omega), len_nat, s1, Option.bind_some, s2, Option.bind_some, List.drop_zero, List.take_length, app_small (by simp; omega) (by omega), Option.bind_some]
  refine ⟨_, _, rfl, rfl, by simp; omega, fun b hb => ?_⟩
  rcases List.mem_append.1 hb with hb | hb
  · exact h.few b (List.mem_of_mem_take hb)
  · exact h.few b (List.mem_of_mem_drop hb)
theorem changes_law (l : List T_api_Bond) (b : T_api_Bond) (a : T_api_Address) (i : Int) (hr : ∀ b ∈ l, U64 b.Peer.Address.Bits ∧ U64 b.Peer.IRK) (hl : l.length ≤ 140737488355328) (hb : U64 b.Peer.Address.Bits) (ha : U64 a.Bits) : wirelesslaw40_BondsChanges FF l b a i = some true := by
  have hF : 2000 < FF := by decide
  have hF2 : 1000000020 < FF := by decide
  unfold wirelesslaw40_BondsChanges
  rw [lives_ok2, Option.bind_some, if_neg (by decide)]
  obtain ⟨v, v1, v2⟩ := valid_ok FF l (fun b hb => (hr b hb).1) hl (by decide)
  rw [v1, Option.bind_some]
  by_cases hg : v = false ∨ b.Subs.length > 64
  · rw [if_pos (by
      rcases hg with rfl | h
      · simp
      · simp [len_nat]; omega)]
  have hv : v = true := by
    cases v with
    | true => rfl
    | false => exact absurd (.inl rfl) hg
  rw [if_neg (by simp [len_nat, hv]; omega)]
  obtain ⟨w1, w2⟩ := v2 hv
  have h : Ok l := ⟨w1, fun b hb => by have := (w2 b hb).few; omega, fun b hb => (w2 b hb).used⟩
  have h64 : b.Subs.length ≤ 64 := by omega
  rw [copy_ok' FF l hF h, Option.bind_some, copy_ok FF [b] hF (by simp) (by simp; omega), Option.bind_some, show idx [b] 0 = some b from rfl, Option.bind_some, Option.bind_some]
  obtain ⟨e, c1, c2⟩ := check_ok FF b hF hb
  have c3 := c1
  rw [← check_same FF b hb] at c3
  obtain ⟨y, n, f, k1, k2, k3, k4⟩ : ∃ y n f, bonds_Add FF l b = some (y, n, f) ∧ wirelessref40_Add FF l b = some (y, n, f) ∧ y.length ≤ 1000 ∧ Few y := by
    by_cases he : e = 0
    · subst he
      have := (addL_ok h (b := b) (by omega)).1
      exact ⟨_, _, _, add_ok FF l b hF h c3 (by omega), add_r FF l b hF h c1 (by omega), by have := this.len; omega, this.few⟩
    · exact ⟨_, _, _, add_bad FF l b e hF h c3 he, add_bad_r FF l b e hF h c1 he, by omega, h.few⟩
  obtain ⟨m, g, r1, r2, r3, r4⟩ := remove_both FF l i hF h
  obtain ⟨t, t1, t2, t3, t4⟩ : ∃ t, bonds_Touch FF l i = some t ∧ wirelessref40_Touch FF l i = some t ∧ t.length ≤ 1000 ∧ Few t := by
    by_cases hi : i < 0 ∨ i ≥ l.length
    · exact ⟨l, touch_out FF l i hF h hi, touch_out_r FF l i hF h hi, by omega, h.few⟩
    · obtain ⟨k, rfl⟩ := Int.eq_ofNat_of_zero_le (a := i) (by omega)
      have hk : k < l.length := by omega
      have := (touchL_ok h (List.getElem?_eq_getElem hk)).1
      exact ⟨_, touch_ok FF l k hF h hk, touch_r FF l k hF h hk, by have := this.len; omega, this.few⟩
  obtain ⟨q, f1, f2⟩ := find_same FF l a (by omega) (fun b hb => (hr b hb).2) ha hF2
  rw [k1, Option.bind_some]
  unfold wirelesslaw40_BondsChanges_j1 wirelesslaw40_BondsChanges_j2
  rw [k2, Option.bind_some, copy_ok' FF l hF h, Option.bind_some, r1, Option.bind_some, r2, Option.bind_some, if_pos (by simp), same_ok FF y hF k3 k4, Option.bind_some, if_pos (by simp), same_ok FF m hF r3 r4, Option.bind_some, if_pos rfl, Option.bind_some, t1, Option.bind_some, t2, Option.bind_some, same_ok FF t hF t3 t4, Option.bind_some, if_pos rfl, Option.bind_some, f1, Option.bind_some, f2, Option.bind_some]
  simp
end V
end Go.Proofs.YtbdhonofhlpdoaaDoor
