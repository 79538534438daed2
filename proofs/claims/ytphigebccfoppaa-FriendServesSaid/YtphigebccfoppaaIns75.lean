/-
  slices.Insert (function 75): the walk, what it returns.
-/
import Derived.Test.YtphigebccfoppaaIns
namespace Go.Proofs.Ytphigebccfoppaa
open Go.Lib Go.RowKit
namespace V
theorem ins75_overlaps (b vb o m vc lb cb : Nat) (cur vcur : Array Value) (fz : Nat × Nat) (w : World) (hvb : vb ≠ b) (hg : w.heap[b]? = some (.cells cur 24 fz)) (h0 : cur.size ≠ 0) (hv : w.heap[vb]? = some (.cells vcur 24 (0, 0))) :
    (callFunc 78 #[.slice (some ⟨vb, 0, none⟩) m vc, .slice (some ⟨b, o, none⟩) lb cb]).run Try.prog w = .ok (.value (.bool false)) w := by
  rw [run_callFunc_extern Try.func78 (by kernel_rfl) (by kernel_rfl) (by kernel_rfl) (e := Extern.SlicesOverlaps.overlaps #[26, 26] #[4]) (by kernel_rfl),
    Lib.run_overlaps_apart w 26 4 24 Try.underlying26 1 Try.sizeOf24 ⟨vb, 0, none⟩ ⟨b, o, none⟩ m vc lb cb hvb 24 24 vcur.size cur.size (by simp [World.shape?, hv]) (by simp [World.shape?, hg]) h0 (by simp [World.frozen?, hv]) (by simp [World.frozen?, hv])]
  rfl
set_option maxHeartbeats 4000000 in
set_option maxRecDepth 1000000 in
theorem ins75_room (b n c i vb m vc : Nat) (cur vcur : Array Value) (fz : Nat × Nat) (vs : List Value) (w : World) (hi : i < n) (hm : 0 < m) (hroom : n + m ≤ c) (hc63 : c ≤ 9223372036854775807) (hvb : vb ≠ b)
    (hg : w.heap[b]? = some (.cells cur 24 fz)) (hfz : Fz 24 fz cur.size) (hcs : cur.size = c) (hv : w.heap[vb]? = some (.cells vcur 24 (0, 0))) (hvl : vs.length = m) (hvt : vcur.toList.take m = vs) (h1 : ∀ u ∈ cur.toList.take n, u.oneCell' = true) (h1v : ∀ u ∈ vs, u.oneCell' = true) :
    Calls Try.prog 75 #[.slice (some ⟨b, 0, none⟩) n c, .int .i64 i, .slice (some ⟨vb, 0, none⟩) m vc] w fun e w' => e = .returned (.slice (some ⟨b, 0, none⟩) (n + m) c) ∧ (∃ cur', w'.heap[b]? = some (.cells cur' 24 fz) ∧ cur'.size = cur.size ∧ cur'.toList.take (n + m) = cur.toList.take i ++ vs ++ (cur.toList.take n).drop i) ∧ w.grownBy w' (some b) := by
  have hle : (n + m) ≤ cur.size := by rw [hcs]; omega
  obtain ⟨mv, hmv⟩ : ∃ mv, mv = (cur.toList.take n).drop i := ⟨_, rfl⟩
  have hml : mv.length = (n - i) := by
    rw [hmv, List.length_drop, List.length_take, Array.length_toList]
    omega
  obtain ⟨c1, hc1⟩ : ∃ c1, c1 = (cur.toList.take (i + m) ++ mv ++ cur.toList.drop ((i + m) + mv.length)).toArray := ⟨_, rfl⟩
  have hs1 : c1.size = cur.size := by
    rw [hc1]
    simp only [List.size_toArray, List.length_append, List.length_take, List.length_drop, Array.length_toList]
    omega
  obtain ⟨W1, hW1⟩ : ∃ W1, W1 = w.drew.setRow b c1 := ⟨_, rfl⟩
  have hb1 : W1.heap[b]? = some (.cells c1 24 fz) := by rw [hW1]; exact setRow_heap w.drew b cur c1 24 fz hg
  have hv1 : W1.heap[vb]? = some (.cells vcur 24 (0, 0)) := by rw [hW1, setRow_other _ b vb _ hvb]; exact hv
  have hcp1 : ∀ ty dc sc, (Builtin.copy_ #[26, 26] ty #[.slice (some ⟨b, (i + m), none⟩) (n + m - (i + m)) dc, .slice (some ⟨b, i, none⟩) (n + m - i) sc]).run Try.prog w.drew = .ok (goInt ((n - i : Nat) : Int)) W1 := fun ty dc sc => by
    rw [hW1, hc1]
    exact run_copy_zz w.drew 26 26 ty 24 1 b (i + m) (n + m - (i + m)) dc ⟨b, i, none⟩ (n + m - i) sc cur 24 fz hfz mv (n - i) Try.underlying26 Try.sizeOf24 hg (by simp only [Nat.min_def]; split <;> omega) (by rw [hml]; omega) (fun j u hj => by
      rw [hmv, List.getElem?_drop, List.getElem?_take] at hj
      split at hj
      · rw [add_lit]
        show w.cell? ⟨b, _, none⟩ = some u
        simp only [World.cell?, hg]
        simpa using hj
      · cases hj) (by rw [hml]; omega) (fun u hu => h1 u (by rw [hmv] at hu; exact List.mem_of_mem_drop hu))
  obtain ⟨c2, hc2⟩ : ∃ c2, c2 = (c1.toList.take i ++ vs ++ c1.toList.drop (i + vs.length)).toArray := ⟨_, rfl⟩
  have hcp2 : ∀ ty dc, (Builtin.copy_ #[26, 26] ty #[.slice (some ⟨b, i, none⟩) (n + m - i) dc, .slice (some ⟨vb, 0, none⟩) m vc]).run Try.prog W1 = .ok (goInt m) (W1.setRow b c2) := fun ty dc => by
    rw [hc2]
    exact run_copy_zz W1 26 26 ty 24 1 b i (n + m - i) dc ⟨vb, 0, none⟩ m vc c1 24 fz (by rw [hs1]; exact hfz) vs m Try.underlying26 Try.sizeOf24 hb1 (by simp only [Nat.min_def]; split <;> omega) (by rw [hvl]; omega) (fun j u hj => by
      rw [← hvt, List.getElem?_take] at hj
      split at hj
      · rw [add_lit, Nat.zero_add]
        simp only [World.cell?, hv1]
        simpa using hj
      · cases hj) (by rw [hvl, hs1]; omega) h1v
  have hov : ∀ lb cb, (callFunc 78 #[.slice (some ⟨vb, 0, none⟩) m vc, .slice (some ⟨b, (i + m), none⟩) lb cb]).run Try.prog w = .ok (.value (.bool false)) w := fun lb cb => ins75_overlaps b vb _ m vc lb cb cur vcur fz w hvb hg (by omega) hv
  have X : Hid (W1 = w.drew.setRow b c1 ∧ c1 = (cur.toList.take (i + m) ++ mv ++ cur.toList.drop ((i + m) + mv.length)).toArray ∧ mv = (cur.toList.take n).drop i ∧ mv.length = (n - i) ∧ c1.size = cur.size ∧ (n + m) ≤ cur.size ∧ W1.heap[b]? = some (.cells c1 24 fz) ∧ c2 = (c1.toList.take i ++ vs ++ c1.toList.drop (i + vs.length)).toArray ∧ vs.length = m) := ⟨hW1, hc1, hmv, hml, hs1, hle, hb1, hc2, hvl⟩
  have hz1 : ¬ ((m : Int) = 0) := by omega
  have hz2 : ¬ ((i : Int) = (n : Int)) := by omega
  have hw1 : IntKind.i64.wrap ((i : Int) + (m : Int)) = (i : Int) + (m : Int) := by rw [IntKind.wrap_i64]; omega
  have hb1' : (0 : Int) ≤ (i : Int) + (m : Int) := by omega
  have hin : i ≤ n := by omega
  have htn : ((i : Int) + (m : Int)).toNat = i + m := by omega
  have hb2 : ¬ (c = i + m) := by omega
  have hb3 : (i : Int) ≤ (n : Int) + (m : Int) := by omega
  have hb4 : ¬ (c = i) := by omega
  clear hg hfz hcs hv hvl hvt h1 h1v hle hmv hml hc1 hs1 hW1 hb1 hv1 hc2
  have mixed : Try.prog.follows Departure.mixedOrders = true := by kernel_rfl
  go_enter Try.func75, Try.ntmps75
  go_wp2_with (simp only [hov])
  go_region_law_o (refine step_copy_run rfl _ _ 26 26 rfl _ _ (by simp [Act.eval, Act.put]) (by simp [Act.eval, Act.put]) (hcp1 _ _ _) ?_)
  go_wp2_with (at_builtin; refine wpList_copy_run _ rfl _ _ 26 26 rfl _ _ rfl rfl (hcp2 _ _) ?_)
  go_ret
  obtain ⟨hW1, hc1, hmv, hml, hs1, hle, hb1, hc2, hvl⟩ := X.out
  refine ⟨rfl, ⟨c2, setRow_heap W1 b c1 c2 24 fz hb1, ?_, ?_⟩, ?_⟩
  · rw [hc2]
    simp only [List.size_toArray, List.length_append, List.length_take, List.length_drop, Array.length_toList]
    omega
  · rw [← hmv, hc2]
    show List.take (n + m) (c1.toList.take i ++ vs ++ c1.toList.drop (i + vs.length)) = _
    rw [List.take_append, List.length_append, List.length_take, Array.length_toList, hs1, hvl, Nat.min_eq_left (by omega : i ≤ cur.size), List.take_of_length_le (by rw [List.length_append, List.length_take, Array.length_toList, hvl]; omega)]
    have e1 : c1.toList.take i = cur.toList.take i := by
      rw [hc1]
      show List.take i (cur.toList.take (i + m) ++ mv ++ _) = _
      rw [List.append_assoc, List.take_append_of_le_length (by rw [List.length_take, Array.length_toList]; omega), List.take_take, Nat.min_eq_left (by omega)]
    have e2 : List.take ((n + m) - (i + m)) (c1.toList.drop (i + m)) = mv := by
      rw [hc1]
      show List.take _ (List.drop (i + m) (cur.toList.take (i + m) ++ mv ++ _)) = _
      rw [List.append_assoc, List.drop_append_of_le_length (by rw [List.length_take, Array.length_toList]; omega), List.drop_eq_nil_of_le (by rw [List.length_take]; omega), List.nil_append, List.take_append_of_le_length (by rw [hml]; omega), List.take_of_length_le (by rw [hml]; omega)]
    rw [e1, e2]
  · rw [hW1]
    exact ⟨rfl, rfl, rfl, by simp, fun k hk hne => by
      rw [setRow_other _ b k _ (fun e => hne (by rw [e])), setRow_other _ b k _ (fun e => hne (by rw [e]))]
      rfl⟩

set_option maxHeartbeats 4000000 in
set_option maxRecDepth 1000000 in
theorem ins75_end (v0 : Option Addr) (n c vb m vc : Nat) (xs : List Value) (vcur : Array Value) (vs : List Value) (w : World) (hm : 0 < m) (hown : ownsR w 24 1 (.slice v0 n c) n xs) (hv : w.heap[vb]? = some (.cells vcur 24 (0, 0))) (hvl : vs.length = m) (hvt : vcur.toList.take m = vs) (h1v : ∀ u ∈ vs, u.oneCell' = true) (hbig : (n + m) * 2 ≤ 140737488355328) (h63 : n + m ≤ maxLen) :
    Calls Try.prog 75 #[.slice v0 n c, .int .i64 n, .slice (some ⟨vb, 0, none⟩) m vc] w fun e w' => ∃ v', e = .returned v' ∧ ownsR w' 24 1 v' (n + m) (xs ++ vs) ∧ w.grownBy w' (ob v0) ∧ (v'.ownBlock = ob v0 ∨ v'.ownBlock = some w.heap.size) := by
  obtain ⟨i0, z, hi0, hz0, hzs, hzb, hzc⟩ : ∃ i0 z, Try.prog.info? 24 = some i0 ∧ i0.zero = some z ∧ i0.size = 1 ∧ i0.bytes = 2 ∧ z.cells.size = 1 := ⟨Try.t24, _, by kernel_rfl, rfl, rfl, rfl, rfl⟩
  obtain ⟨v', w', hr, ho, hgr, hob⟩ := run_append_z (P := Try.prog) w 26 26 24 i0 z 1 2 Try.underlying26 hi0 hz0 hzs hzb hzc (by decide) (.slice v0 n c) n xs hown ⟨vb, 0, none⟩ m vc vs (by rw [hvl]; omega) (fun j u hj => by
    rw [← hvt, List.getElem?_take] at hj
    split at hj
    · rw [add_lit, Nat.zero_add]
      simp only [World.cell?, hv]
      simpa using hj
    · cases hj) h1v h63 hbig
  rw [ownBlock_slice] at hgr hob
  have hnc : n ≤ c := by
    rcases hown.2 with ⟨hv, h0⟩ | ⟨g, cap, cur, fz, hv, _, _, hnc, _⟩
    · omega
    · injection hv with _ _ h
      omega
  have X : Hid (ownsR w' 24 1 v' (n + m) (xs ++ vs) ∧ w.grownBy w' (ob v0) ∧ (v'.ownBlock = ob v0 ∨ v'.ownBlock = some w.heap.size)) := ⟨ho, hgr, hob⟩
  have hc63 : c ≤ 9223372036854775807 := by
    rcases hown.2 with ⟨hv, h0⟩ | ⟨g, cap, cur, fz, hv, _, _, hnc, hcm, _⟩
    · injection hv with _ _ h
      omega
    · injection hv with _ _ h
      simp only [maxLen] at hcm
      omega
  have hz1 : ¬ ((m : Int) = 0) := by omega
  have hn0 : (0 : Int) ≤ (n : Int) := by omega
  clear hown hv hvl hvt h1v ho hgr hob hi0 hz0 hzs hzb hzc hbig h63
  go_enter Try.func75, Try.ntmps75
  go_wp2_with (at_builtin; refine Lib.wpList_append_run _ rfl _ _ _ _ rfl _ _ rfl rfl _ _ hr ?_)
  all_goals (go_ret; exact ⟨_, rfl, X.out⟩)
set_option maxHeartbeats 4000000 in
set_option maxRecDepth 1000000 in
theorem ins75_grow (b n c i vb m vc : Nat) (cur vcur : Array Value) (fz : Nat × Nat) (vs : List Value) (w : World) (hi : i < n) (hm : 0 < m) (hnc : n ≤ c) (hroom : c < n + m) (hbig : (n + m) * 2 ≤ 140737488355328) (h63 : n + m ≤ maxLen)
    (hg : w.heap[b]? = some (.cells cur 24 fz)) (hcs : cur.size = c) (hv : w.heap[vb]? = some (.cells vcur 24 (0, 0))) (hvl : vs.length = m) (hvt : vcur.toList.take m = vs) (h1 : ∀ u ∈ cur.toList.take n, u.oneCell' = true) (h1v : ∀ u ∈ vs, u.oneCell' = true) :
    Calls Try.prog 75 #[.slice (some ⟨b, 0, none⟩) n c, .int .i64 i, .slice (some ⟨vb, 0, none⟩) m vc] w fun e w' => ∃ G, e = .returned (.slice (some ⟨w.heap.size, 0, none⟩) (n + m) G) ∧ n + m ≤ G ∧ G ≤ maxLen ∧ (∃ cur', w'.heap[w.heap.size]? = some (.cells cur' 24 (0, 0)) ∧ cur'.size = G ∧ cur'.toList.take (n + m) = cur.toList.take i ++ vs ++ (cur.toList.take n).drop i) ∧ w.grownBy w' none ∧ w.heap.size < w'.heap.size := by
  obtain ⟨i0, z, hi0, hz0, hzs, hzb, hzc⟩ : ∃ i0 z, Try.prog.info? 24 = some i0 ∧ i0.zero = some z ∧ i0.size = 1 ∧ i0.bytes = 2 ∧ z.cells.size = 1 := ⟨Try.t24, _, by kernel_rfl, rfl, rfl, rfl, rfl⟩
  have hbw : b < w.heap.size := by
    rcases Nat.lt_or_ge b w.heap.size with h | h
    · exact h
    · rw [Array.getElem?_eq_none h] at hg; cases hg
  have hvw : vb < w.heap.size := by
    rcases Nat.lt_or_ge vb w.heap.size with h | h
    · exact h
    · rw [Array.getElem?_eq_none h] at hv; cases hv
  have hle : n ≤ cur.size := by rw [hcs]; omega
  obtain ⟨mv, hmv⟩ : ∃ mv, mv = (cur.toList.take n).drop i := ⟨_, rfl⟩
  have hml : mv.length = (n - i) := by
    rw [hmv, List.length_drop, List.length_take, Array.length_toList]
    omega
  have hik : i + (n + m - i) = n + m := by omega
  have hkk : (n : Int) + (m : Int) - (i : Int) = ((n + m - i : Nat) : Int) := by omega
  obtain ⟨G, hG⟩ : ∃ G, G = grownCap w (n + m) c 24 := ⟨_, rfl⟩
  have hGn : n + m ≤ G := by rw [hG]; exact grownCap_ge w _ _ _
  have hGm : G ≤ maxLen := by rw [hG]; exact grownCap_le_maxLen w (n + m) c 24 h63
  obtain ⟨ROW, hROW⟩ : ∃ ROW : Array Value, ROW = (cur.toList.take i).toArray ++ Builtin.zeroCells z.cells (n + m - i) ++ Builtin.zeroCells z.cells (G - (n + m)) := ⟨_, rfl⟩
  have hRs : ROW.size = G := by
    rw [hROW]
    simp only [Array.size_append, List.size_toArray, size_zeroCells, hzc, List.length_take, Array.length_toList]
    omega
  have hRt : ROW.toList.take i = cur.toList.take i := by
    rw [hROW, Array.toList_append, Array.toList_append, List.append_assoc]
    show List.take i (cur.toList.take i ++ _) = _
    rw [List.take_append_of_le_length (by rw [List.length_take, Array.length_toList]; omega), List.take_take, Nat.min_self]
  obtain ⟨W1, hW1⟩ : ∃ W1, W1 = w.drew.alloc (.cells ROW 24) := ⟨_, rfl⟩
  have hold : (Builtin.firstCells i0.size i (.slice (some ⟨b, 0, none⟩) i c)).run Try.prog w.drew = .ok (cur.toList.take i).toArray w.drew := by
    rw [hzs]
    exact run_firstCells_some w.drew 1 i ⟨b, 0, none⟩ i c (cur.toList.take i) (by rw [List.length_take, Array.length_toList]; omega) (fun j u hj => by
      rw [List.getElem?_take] at hj
      split at hj
      · rw [add_lit, Nat.zero_add]
        show w.cell? ⟨b, _, none⟩ = some u
        simp only [World.cell?, hg]
        simpa using hj
      · cases hj)
  have hrz : ∀ ty, (Builtin.append_ #[26, 3] ty #[.slice (some ⟨b, 0, none⟩) i c, .int .i64 ((n : Int) + (m : Int) - (i : Int))]).run Try.prog w = .ok (.slice (some ⟨w.heap.size, 0, none⟩) (n + m) G) W1 := fun ty => by
    have h := Lib.run_append_grow_zeros w 26 3 ty 24 i0 z .i64 .i64 Try.underlying26 Try.underlying3 hi0 hz0 (some ⟨b, 0, none⟩) i c (cur.toList.take i) hold (n + m - i) (by omega) (by omega) (by omega) (by simp only [maxLen] at h63; omega) (by rw [hzb]; omega) (by rw [hzb, hik]; exact growslice_fits hroom hbig)
    rw [hik, ← hG, ← hROW, ← hW1] at h
    rw [hkk]
    exact h
  have hN1 : W1.heap[w.heap.size]? = some (.cells ROW 24 (0, 0)) := by rw [hW1]; exact heap_alloc_new w.drew _
  have hO1 : ∀ k, k < w.heap.size → W1.heap[k]? = w.heap[k]? := fun k hk => by rw [hW1]; exact heap_alloc_old w.drew _ hk
  have hS1 : w.heap.size < W1.heap.size := by rw [hW1]; simp
  have hz : Fz 24 (0, 0) ROW.size := .inl rfl
  obtain ⟨c1, hc1⟩ : ∃ c1, c1 = (ROW.toList.take i ++ vs ++ ROW.toList.drop (i + vs.length)).toArray := ⟨_, rfl⟩
  have hs1 : c1.size = ROW.size := by
    rw [hc1]
    simp only [List.size_toArray, List.length_append, List.length_take, List.length_drop, Array.length_toList]
    omega
  obtain ⟨W2, hW2⟩ : ∃ W2, W2 = W1.setRow w.heap.size c1 := ⟨_, rfl⟩
  have hN2 : W2.heap[w.heap.size]? = some (.cells c1 24 (0, 0)) := by rw [hW2]; exact setRow_heap W1 w.heap.size ROW c1 24 (0, 0) hN1
  have hO2 : ∀ k, k < w.heap.size → W2.heap[k]? = w.heap[k]? := fun k hk => by rw [hW2, setRow_other _ w.heap.size k _ (by omega)]; exact hO1 k hk
  have hcpA : ∀ ty dc, (Builtin.copy_ #[26, 26] ty #[.slice (some ⟨w.heap.size, i, none⟩) (n + m - i) dc, .slice (some ⟨vb, 0, none⟩) m vc]).run Try.prog W1 = .ok (goInt m) W2 := fun ty dc => by
    rw [hW2, hc1]
    exact run_copy_zz W1 26 26 ty 24 1 w.heap.size i (n + m - i) dc ⟨vb, 0, none⟩ m vc ROW 24 (0, 0) hz vs m Try.underlying26 Try.sizeOf24 hN1 (by simp only [Nat.min_def]; split <;> omega) (by rw [hvl]; omega) (fun j u hj => by
      rw [← hvt, List.getElem?_take] at hj
      split at hj
      · rw [add_lit, Nat.zero_add]
        simp only [World.cell?, hO1 vb hvw, hv]
        simpa using hj
      · cases hj) (by rw [hvl, hRs]; omega) h1v
  obtain ⟨c2, hc2⟩ : ∃ c2, c2 = (c1.toList.take (i + m) ++ mv ++ c1.toList.drop ((i + m) + mv.length)).toArray := ⟨_, rfl⟩
  have hcpB : ∀ ty dc sc, (Builtin.copy_ #[26, 26] ty #[.slice (some ⟨w.heap.size, (i + m), none⟩) (n + m - (i + m)) dc, .slice (some ⟨b, i, none⟩) (n - i) sc]).run Try.prog W2.drew = .ok (goInt ((n - i : Nat) : Int)) (W2.drew.setRow w.heap.size c2) := fun ty dc sc => by
    rw [hc2]
    exact run_copy_zz W2.drew 26 26 ty 24 1 w.heap.size (i + m) (n + m - (i + m)) dc ⟨b, i, none⟩ (n - i) sc c1 24 (0, 0) (.inl rfl) mv (n - i) Try.underlying26 Try.sizeOf24 hN2 (by simp only [Nat.min_def]; split <;> omega) (by rw [hml]; omega) (fun j u hj => by
      rw [hmv, List.getElem?_drop, List.getElem?_take] at hj
      split at hj
      · rw [add_lit]
        show W2.cell? ⟨b, _, none⟩ = some u
        simp only [World.cell?, hO2 b hbw, hg]
        simpa using hj
      · cases hj) (by rw [hml, hs1, hRs]; omega) (fun u hu => h1 u (by rw [hmv] at hu; exact List.mem_of_mem_drop hu))
  have X : Hid (n + m ≤ G ∧ G ≤ maxLen ∧ (∃ cur', (W2.drew.setRow w.heap.size c2).heap[w.heap.size]? = some (.cells cur' 24 (0, 0)) ∧ cur'.size = G ∧ cur'.toList.take (n + m) = cur.toList.take i ++ vs ++ (cur.toList.take n).drop i) ∧ w.grownBy (W2.drew.setRow w.heap.size c2) none ∧ w.heap.size < (W2.drew.setRow w.heap.size c2).heap.size) := by
    refine ⟨hGn, hGm, ⟨c2, setRow_heap W2.drew w.heap.size c1 c2 24 (0, 0) hN2, ?_, ?_⟩, ⟨?_, ?_, ?_, ?_, ?_⟩, ?_⟩
    · rw [hc2]
      simp only [List.size_toArray, List.length_append, List.length_take, List.length_drop, Array.length_toList]
      omega
    · rw [← hmv, hc2]
      show List.take (n + m) (c1.toList.take (i + m) ++ mv ++ _) = _
      rw [List.take_append_of_le_length (by rw [List.length_append, List.length_take, Array.length_toList]; omega), List.take_of_length_le (by rw [List.length_append, List.length_take, Array.length_toList]; omega)]
      congr 1
      rw [hc1]
      show List.take (i + m) (ROW.toList.take i ++ vs ++ _) = _
      rw [List.take_append_of_le_length (by rw [List.length_append, List.length_take, Array.length_toList]; omega), List.take_of_length_le (by rw [List.length_append, List.length_take, Array.length_toList]; omega), hRt]
    · show W2.os = w.os
      rw [hW2, hW1]; rfl
    · show W2.tape = w.tape
      rw [hW2, hW1]; rfl
    · show W2.output = w.output
      rw [hW2, hW1]; rfl
    · rw [hW2, hW1]; simp
    · intro k hk _
      rw [setRow_other _ w.heap.size k _ (by omega)]
      exact hO2 k hk
    · rw [hW2, hW1]; simp
  have hG63 : G ≤ 9223372036854775807 := by simp only [maxLen] at hGm; omega
  have hz1 : ¬ ((m : Int) = 0) := by omega
  have hz2 : ¬ ((i : Int) = (n : Int)) := by omega
  have hz3 : (c : Int) < (n : Int) + (m : Int) := by omega
  have hGi : ¬ (G = i) := by omega
  have hGim : ¬ (G = i + m) := by omega
  have hci : ¬ (c = i) := by omega
  have hw1 : IntKind.i64.wrap ((i : Int) + (m : Int)) = (i : Int) + (m : Int) := by rw [IntKind.wrap_i64]; simp only [maxLen] at h63; omega
  have hb1 : (0 : Int) ≤ (i : Int) + (m : Int) := by omega
  have hin : i ≤ n := by omega
  have htn : ((i : Int) + (m : Int)).toNat = i + m := by omega
  have hb3 : (i : Int) ≤ (n : Int) := by omega
  have mixed : Try.prog.follows Departure.mixedOrders = true := by kernel_rfl
  clear hkk hik hold hROW hRs hRt hN1 hO1 hS1 hz hN2 hO2 hmv hml hc1 hs1 hc2 hW1 hW2 hbw hvw hle hi0 hz0 hzs hzb hzc hbig h63 hg hcs hv hvl hvt h1 h1v hGm hG
  go_enter Try.func75, Try.ntmps75
  go_wp2_with (first
    | (at_builtin; refine Lib.wpList_append_run _ rfl _ _ _ _ rfl _ _ rfl rfl _ _ (hrz _) ?_)
    | (at_builtin; refine wpList_copy_run _ rfl _ _ 26 26 rfl _ _ rfl rfl (hcpA _ _) ?_))
  go_region_law_o (refine step_copy_run rfl _ _ 26 26 rfl (.slice (some ⟨w.heap.size, (i + m), none⟩) (n + m - (i + m)) (G - (i + m))) (.slice (some ⟨b, i, none⟩) (n - i) (c - i)) (by simp [Act.eval, Act.put]) (by simp [Act.eval, Act.put]) (hcpB 3 (G - (i + m)) (c - i)) ?_)
  go_wp2
  go_ret
  exact ⟨G, rfl, X.out⟩

theorem spec_ins75 {α : Type} {R : RT α} [GRep R] (l : List α) (i : Int) (x : α) (h0 : 0 ≤ i) (h1 : i ≤ l.length) (hbig : (l.length + 1) * 2 ≤ 140737488355328) : Spec Try.prog 75 [vs 0, vi .i64 i, vs 1] [.own 1 24 R l, .own 1 24 R [x]] (vs 2) [.gone, .gone, .own 1 24 R (l.take i.toNat ++ [x] ++ l.drop i.toNat)] := by
  refine spec_row2 (v := .int .i64 i) fun U0 w A B c d ho hp C => ?_
  obtain ⟨i, rfl⟩ := Int.eq_ofNat_of_zero_le h0
  have hil : i ≤ l.length := by omega
  have h63 : l.length + 1 ≤ maxLen := by simp only [maxLen]; omega
  rcases own_form hp with ⟨_, _, hp⟩ | ⟨vb, vcur, vfz, rfl, hvfz, hv, _, _, hvsz, hve⟩
  · cases hp
  have hvz : vfz = (0, 0) := by
    rcases hvfz with h | ⟨_, h⟩
    · exact h
    · exact absurd h (by decide)
  subst hvz
  have hv1 := Els.one _ _ hve
  have hvl := Els.length _ _ hve
  have hlen : (l.take i ++ [x] ++ l.drop i).length = l.length + 1 := by
    simp only [List.length_append, List.length_take, List.length_drop, List.length_singleton]
    omega
  have hT0 : ∀ {W : World} {cs xs : List Value}, Els 1 R (Mu U0 [ob A, some vb]) w cs l → Els 1 R (Mu U0 [ob A, some vb]) w xs [x] → Els 1 R (Mu U0 [ob A, some vb]) w (cs.take (i * 1) ++ xs ++ cs.drop (i * 1)) (l.take i ++ [x] ++ l.drop i) := fun {W cs xs} h1 h2 =>
    Els.append _ _ _ _ (Els.append _ _ _ _ (Els.take i l _ h1) h2) (Els.drop i l _ h1)
  by_cases hend : i = l.length
  · subst hend
    obtain ⟨xs, hown, he⟩ := ho
    refine (ins75_end A l.length c vb 1 d xs vcur (vcur.toList.take (([x] : List α).length * 1)) w (by omega) hown hv (by rw [hvl]; rfl) (by rfl) hv1 hbig h63).mono ?_
    rintro e w' ⟨v', rfl, ho', hgr, hob⟩
    have hform : ∃ A' c', v' = .slice A' (l.length + 1) c' := by
      rcases ho'.2 with ⟨hv, h0⟩ | ⟨g', cap, cur, fz, hv, _⟩
      · omega
      · exact ⟨_, _, hv⟩
    obtain ⟨A', c', rfl⟩ := hform
    rw [ownBlock_slice] at hob
    have hlt : ∀ b, ob A' = some b → b < w'.heap.size := fun b hb => ho'.lt b (by rw [ownBlock_slice]; exact hb)
    have hT := C.turn (w' := w') (y := ob A') (L' := [ob A', some vb]) (i := 0) rfl hgr.os hgr.tape hgr.output hgr.size (fun k hk hne => hgr.block k hk fun e => hne e.symm) (by
      rcases hob with e | e
      · exact .inl e
      · exact .inr (.inr ⟨e, hlt _ e⟩)) rfl
    refine ⟨A', c', by rw [show (l.take ((l.length : Nat) : Int).toNat ++ [x] ++ l.drop ((l.length : Nat) : Int).toNat).length = l.length + 1 from hlen], ?_, hT.1⟩
    have hl' : l.take ((l.length : Nat) : Int).toNat ++ [x] ++ l.drop ((l.length : Nat) : Int).toNat = l ++ [x] := by
      rw [Int.toNat_natCast, List.take_length, List.drop_length, List.append_nil]
    rw [hl']
    refine ⟨_, by rw [List.length_append, List.length_singleton]; exact ho', ?_⟩
    exact Els.append _ _ _ _ (Els.step hT.2.h1 hT.2.mono _ _ he) (Els.step hT.2.h1 hT.2.mono _ _ hve)
  · rcases own_form ho with ⟨_, _, rfl⟩ | ⟨b, cur, fz, rfl, hfz, hg, hle, hm, hsz, he⟩
    · simp at hend hil
      omega
    have hone := Els.one _ _ he
    have hne : vb ≠ b := fun e => C.sep 0 1 b (by decide) rfl (by rw [← e]; rfl)
    by_cases hroom : l.length + 1 ≤ c
    · refine (ins75_room b l.length c i vb 1 d cur vcur fz (vcur.toList.take (([x] : List α).length * 1)) w (by omega) (by omega) hroom (by simp only [maxLen] at hm; omega) hne hg hfz (by rw [hsz]; omega) hv (by rw [hvl]; rfl) (by rfl) (by simpa using hone) hv1).mono ?_
      rintro e w' ⟨rfl, ⟨cur', hg', hs', ht⟩, hgr⟩
      have hT := C.turn (w' := w') (y := some b) (L' := [some b, some vb]) (i := 0) rfl hgr.os hgr.tape hgr.output hgr.size (fun k hk hne => hgr.block k hk fun e => hne e.symm) (.inl rfl) rfl
      refine ⟨some ⟨b, 0, none⟩, c, by rw [show (l.take ((i : Nat) : Int).toNat ++ [x] ++ l.drop ((i : Nat) : Int).toNat).length = l.length + 1 from hlen], ?_, hT.1⟩
      show Own 1 24 R _ w' (some ⟨b, 0, none⟩) c (l.take i ++ [x] ++ l.drop i)
      refine own_mk (by rw [hs']; exact hfz) hg' (by rw [hlen]; omega) hm (by rw [hs']; exact hsz) ?_
      rw [hlen]
      have hE := hT0 (W := w) he hve
      have ht2 : cur'.toList.take ((l.length + 1) * 1) = (cur.toList.take (l.length * 1)).take (i * 1) ++ vcur.toList.take (([x] : List α).length * 1) ++ (cur.toList.take (l.length * 1)).drop (i * 1) := by
        rw [List.take_take, Nat.min_eq_left (Nat.mul_le_mul_right _ hil)]
        simpa using ht
      rw [ht2]
      exact Els.step hT.2.h1 hT.2.mono _ _ hE
    · refine (ins75_grow b l.length c i vb 1 d cur vcur fz (vcur.toList.take (([x] : List α).length * 1)) w (by omega) (by omega) hle (by omega) hbig h63 hg (by rw [hsz]; omega) hv (by rw [hvl]; rfl) (by rfl) (by simpa using hone) hv1).mono ?_
      rintro e w' ⟨G, rfl, hG1, hG2, ⟨cur', hg', hs', ht⟩, hgr, hlt⟩
      have hT := C.turn (w' := w') (y := some w.heap.size) (L' := [some w.heap.size, some vb]) (i := 0) rfl hgr.os hgr.tape hgr.output hgr.size (fun k hk _ => hgr.block k hk (by simp)) (.inr (.inr ⟨rfl, hlt⟩)) rfl
      refine ⟨some ⟨w.heap.size, 0, none⟩, G, by rw [show (l.take ((i : Nat) : Int).toNat ++ [x] ++ l.drop ((i : Nat) : Int).toNat).length = l.length + 1 from hlen], ?_, hT.1⟩
      show Own 1 24 R _ w' (some ⟨w.heap.size, 0, none⟩) G (l.take i ++ [x] ++ l.drop i)
      refine own_mk (.inl rfl) hg' (by rw [hlen]; omega) hG2 (by rw [hs']; omega) ?_
      rw [hlen]
      have hE := hT0 (W := w) he hve
      have ht2 : cur'.toList.take ((l.length + 1) * 1) = (cur.toList.take (l.length * 1)).take (i * 1) ++ vcur.toList.take (([x] : List α).length * 1) ++ (cur.toList.take (l.length * 1)).drop (i * 1) := by
        rw [List.take_take, Nat.min_eq_left (Nat.mul_le_mul_right _ hil)]
        simpa using ht
      rw [ht2]
      exact Els.step hT.2.h1 hT.2.mono _ _ hE
end V
end Go.Proofs.Ytphigebccfoppaa
