/-
  slices.Delete at a row of the call's own: the walk.
-/
import Derived.Test.YtphigebccfoppaaDel
import Derived.Below
namespace Go.Proofs.Ytphigebccfoppaa
open Go.Lib Go.RowKit
namespace V
set_option maxHeartbeats 4000000 in
set_option maxRecDepth 1000000 in
theorem del_calls (b n cap i j : Nat) (cur : Array Value) (fz : Nat × Nat) (w : World) (hg : w.heap[b]? = some (.cells cur 38 fz)) (hfz : Fz 38 fz cur.size) (hcs : cur.size = cap * 18) (hn : n ≤ cap) (hm : cap ≤ 9223372036854775807) (h1 : ∀ u ∈ cur.toList.take (n * 18), u.oneCell' = true) (hij : i ≤ j) (hj : j ≤ n) :
    Calls Try.prog 56 #[.slice (some ⟨b, 0, none⟩) n cap, .int .i64 i, .int .i64 j] w fun e w' => e = .returned (.slice (some ⟨b, 0, none⟩) (n - (j - i)) cap) ∧ (∃ cur', w'.heap[b]? = some (.cells cur' 38 fz) ∧ cur'.size = cur.size ∧ cur'.toList.take ((n - (j - i)) * 18) = cur.toList.take (i * 18) ++ (cur.toList.take (n * 18)).drop (j * 18)) ∧ w.grownBy w' (some b) := by
  by_cases heq : i = j
  · subst heq
    have h0 : Calls Try.prog 56 #[.slice (some ⟨b, 0, none⟩) n cap, .int .i64 i, .int .i64 i] w fun e w' => e = .returned (.slice (some ⟨b, 0, none⟩) n cap) ∧ w' = w := by
      clear hg hfz hcs h1
      go_enter Try.func56, Try.ntmps56
      go_wp2
      all_goals (go_ret; exact ⟨rfl, rfl⟩)
    refine h0.mono ?_
    rintro e w' ⟨rfl, rfl⟩
    refine ⟨by rw [Nat.sub_self, Nat.sub_zero], ⟨cur, hg, rfl, ?_⟩, ⟨rfl, rfl, rfl, Nat.le_refl _, fun _ _ _ => rfl⟩⟩
    rw [Nat.sub_self, Nat.sub_zero]
    have := List.take_append_drop (i * 18) (cur.toList.take (n * 18))
    rw [List.take_take, Nat.min_eq_left (Nat.mul_le_mul_right _ hj)] at this
    exact this.symm
  · have hlt : i < j := by omega
    have hic : i ≤ cap := by omega
    have hjc : j ≤ cap := by omega
    clear heq
    have hle : n * 18 ≤ cur.size := by rw [hcs]; exact Nat.mul_le_mul_right _ hn
    -- the cells that are moved to the left
    obtain ⟨news, hnews⟩ : ∃ news, news = (cur.toList.take (n * 18)).drop (j * 18) := ⟨_, rfl⟩
    have hlen : news.length = (n - j) * 18 := by
      rw [hnews, List.length_drop, List.length_take, Array.length_toList, Nat.min_eq_left hle, Nat.sub_mul]
    obtain ⟨A, hA, hsrc⟩ : ∃ A : Addr, (if cap = j then some (⟨b, 0, none⟩ : Addr) else some ⟨b, j * 18, none⟩) = some A ∧ Hid (∀ t u, news[t]? = some u → w.drew.cell? (A.add t) = some u) := by
      by_cases h : cap = j
      · refine ⟨⟨b, 0, none⟩, by simp [h], fun t u hu => ?_⟩
        have h0 : news.length = 0 := by rw [hlen]; have : n - j = 0 := by omega
                                        rw [this]
        rw [List.length_eq_zero_iff.1 h0] at hu
        simp at hu
      · refine ⟨⟨b, j * 18, none⟩, by simp [h], fun t u hu => ?_⟩
        rw [hnews, List.getElem?_drop, List.getElem?_take] at hu
        split at hu
        · rw [add_lit]
          show w.cell? ⟨b, j * 18 + t, none⟩ = some u
          simp only [World.cell?, hg]
          simpa using hu
        · cases hu
    have s1 : Hid (news.length = (n - j) * 18) := hlen
    have s2 : Hid (∀ u ∈ news, u.oneCell' = true) := fun u hu => h1 u (by rw [hnews] at hu; exact List.mem_of_mem_drop hu)
    have s3 : Hid (i * 18 + news.length ≤ cur.size) := by
      show i * 18 + news.length ≤ cur.size
      rw [hlen, ← Nat.add_mul]
      exact Nat.le_trans (Nat.mul_le_mul_right _ (by omega)) hle
    have s4 : Hid (w.drew.heap[b]? = some (.cells cur 38 fz)) := hg
    have s5 : Hid (Fz 38 fz cur.size) := hfz
    -- the row behind the append
    obtain ⟨c1, hc1⟩ : ∃ c1, c1 = (cur.toList.take (i * 18) ++ news ++ cur.toList.drop (i * 18 + news.length)).toArray := ⟨_, rfl⟩
    have hs1 : c1.size = cur.size := by
      rw [hc1]
      simp only [List.size_toArray, List.length_append, List.length_take, List.length_drop, Array.length_toList]
      have := s3.out
      omega
    obtain ⟨W1, hW1⟩ : ∃ W1, W1 = w.drew.setRow b c1 := ⟨_, rfl⟩
    have hb1 : W1.heap[b]? = some (.cells c1 38 fz) := by rw [hW1]; exact setRow_heap w.drew b cur c1 38 fz hg
    have hz1 : (i + (n - j)) * 18 + (n - (i + (n - j))) * 18 ≤ c1.size := by
      rw [hs1, ← Nat.add_mul]
      exact Nat.le_trans (Nat.mul_le_mul_right _ (by omega)) hle
    obtain ⟨zc, hzl, hcl0⟩ : ∃ zc : List Value, zc.length = (n - (i + (n - j))) * 18 ∧ ∀ ty, (Builtin.clear_ #[25] ty #[.slice (some ⟨b, (i + (n - j)) * 18, none⟩) (n - (i + (n - j))) (cap - (i + (n - j)))]).run Try.prog W1 = .ok (.tuple #[]) (W1.setRow b (c1.toList.take ((i + (n - j)) * 18) ++ zc ++ c1.toList.drop ((i + (n - j)) * 18 + (n - (i + (n - j))) * 18)).toArray) :=
      ⟨_, (by rw [Array.length_toList, size_zeroCells]; rfl), fun ty => run_clear_z W1 25 38 ty _ 18 Try.underlying25 Try.zeroValue38 (by rfl) (by simp [Value.cells, Value.oneCell']) b (i + (n - j)) (n - (i + (n - j))) _ (by omega) c1 fz (by rw [hs1]; exact hfz) hb1 hz1⟩
    obtain ⟨c2, hc2⟩ : ∃ c2, c2 = (c1.toList.take ((i + (n - j)) * 18) ++ zc ++ c1.toList.drop ((i + (n - j)) * 18 + (n - (i + (n - j))) * 18)).toArray := ⟨_, rfl⟩
    have hcl : ∀ ty, (Builtin.clear_ #[25] ty #[.slice (some ⟨b, (i + (n - j)) * 18, none⟩) (n - (i + (n - j))) (cap - (i + (n - j)))]).run Try.prog W1 = .ok (.tuple #[]) (W1.setRow b c2) := fun ty => by rw [hc2]; exact hcl0 ty
    have hlen2 : Hid (zc.length = (n - (i + (n - j))) * 18 ∧ c2 = (c1.toList.take ((i + (n - j)) * 18) ++ zc ++ c1.toList.drop ((i + (n - j)) * 18 + (n - (i + (n - j))) * 18)).toArray) := ⟨hzl, hc2⟩
    clear hcl0 hzl hc2
    have X : Hid (W1 = w.drew.setRow b c1 ∧ c1 = (cur.toList.take (i * 18) ++ news ++ cur.toList.drop (i * 18 + news.length)).toArray ∧ news = (cur.toList.take (n * 18)).drop (j * 18) ∧ news.length = (n - j) * 18 ∧ c1.size = cur.size ∧ n * 18 ≤ cur.size ∧ w.heap[b]? = some (.cells cur 38 fz) ∧ W1.heap[b]? = some (.cells c1 38 fz)) := ⟨hW1, hc1, hnews, hlen, hs1, hle, hg, hb1⟩
    have hW : Hid (w.drew.setRow b (cur.toList.take (i * 18) ++ news ++ cur.toList.drop (i * 18 + news.length)).toArray = W1) := by
      show _ = W1
      rw [hW1, hc1]
    clear hg hfz hcs h1 hle hnews hlen hc1 hs1 hW1 hb1 hz1
    go_enter Try.func56, Try.ntmps56
    go_wp2_with fail
    go_region_law (refine step_append_z rfl (.tmp 22) (.tmp 25) 25 rfl 38 18 Try.underlying25 Try.sizeOf38 b i cap (by simp [Act.eval, Act.put]) cur fz s5.out s4.out A (n - j) (cap - j) news (by simp [Act.eval, Act.put, hA]) s1.out hsrc.out s2.out (by omega) s3.out ?_; rw [hW.out])
    go_wp2
    go_ret
    obtain ⟨hW1, hc1, hnews, hlen, hs1, hle, hg, hb1⟩ := X.out
    obtain ⟨hzl, hc2⟩ := hlen2.out
    refine ⟨by rw [show n - (j - i) = i + (n - j) by omega]; rfl, ?_, ?_⟩
    · refine ⟨_, setRow_heap W1 b c1 _ 38 fz hb1, ?_, ?_⟩
      · have hk : (i + (n - j)) * 18 + (n - (i + (n - j))) * 18 ≤ c1.size := by
          rw [hs1, ← Nat.add_mul]
          exact Nat.le_trans (Nat.mul_le_mul_right _ (by omega)) hle
        rw [hc2, List.size_toArray, List.length_append, List.length_append, List.length_take, List.length_drop, hzl, Array.length_toList, hs1]
        rw [hs1] at hk
        omega
      · have hk : (i + (n - j)) * 18 ≤ c1.size := by
          rw [hs1]
          exact Nat.le_trans (Nat.mul_le_mul_right _ (by omega)) hle
        have hcl1 : (c1.toList.take ((i + (n - j)) * 18)).length = (i + (n - j)) * 18 := by rw [List.length_take, Array.length_toList]; omega
        rw [show n - (j - i) = i + (n - j) by omega, ← hnews, hc2]
        show List.take ((i + (n - j)) * 18) (c1.toList.take ((i + (n - j)) * 18) ++ _ ++ _) = _
        rw [List.append_assoc, List.take_append, hcl1, Nat.sub_self, List.take_zero, List.append_nil, List.take_take, Nat.min_self, hc1]
        have hl0 : (cur.toList.take (i * 18) ++ news).length = (i + (n - j)) * 18 := by
          rw [List.length_append, List.length_take, Array.length_toList, hlen, Nat.min_eq_left (Nat.le_trans (Nat.mul_le_mul_right _ (by omega)) hle), Nat.add_mul]
        show List.take ((i + (n - j)) * 18) (cur.toList.take (i * 18) ++ news ++ _) = _
        rw [← hl0]
        exact List.take_left
    · rw [hW1]
      exact ⟨rfl, rfl, rfl, by simp, fun k hk hne => by
        rw [setRow_other _ b k _ (fun e => hne (by rw [e])), setRow_other _ b k _ (fun e => hne (by rw [e]))]
        rfl⟩
end V
end Go.Proofs.Ytphigebccfoppaa
