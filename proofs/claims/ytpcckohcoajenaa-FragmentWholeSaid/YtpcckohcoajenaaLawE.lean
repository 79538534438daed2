/-
  Frames: whole, with empty packets in between.
-/
import Derived.Test.YtpcckohcoajenaaLawD
namespace Go.Proofs.Ytpcckohcoajenaa
namespace V
theorem feed_blank {a : T_api_Assembler} : feed a ⟨1, []⟩ = (a, [], 0) := by
  unfold feed
  rw [if_pos ⟨rfl, rfl⟩]
theorem gap_cond (gaps : List Int) (k : Int) (h0 : 0 ≤ k) : ∃ z, (if decide (k < len gaps) = true then (idx gaps k).bind fun x => (irem x 3).bind fun y => some (y == 0) else some false) = some z ∧ (z = true → k < len gaps) := by
  have hno := len_nat gaps
  by_cases hc : k < len gaps
  · obtain ⟨y, hy, _⟩ := idx_lt h0 (show k < gaps.length from by omega)
    rw [if_pos (dt hc), hy, Option.bind_some]
    exact ⟨_, rfl, fun _ => hc⟩
  · rw [if_neg (df hc)]
    exact ⟨_, rfl, fun h => by cases h⟩
theorem gaps_ok (gaps : List Int) (hgl : gaps.length ≤ 140737488355328) (a : T_api_Assembler) (ha : Val a) (k : Int) (h0 : 0 ≤ k) (M : Int) (hM : gaps.length ≤ M) (hk : k ≤ M) (hMb : M ≤ 1000000000000000000) :
    ∃ k', iter (fun s => wirelesslaw32_FragmentWhole_l3 FF gaps a s) FF k = some (.inl k') ∧ 0 ≤ k' ∧ k' ≤ M := by
  have hno := len_nat gaps
  obtain ⟨o, h1, k', rfl, hq⟩ := iter_by (body := fun s => wirelesslaw32_FragmentWhole_l3 FF gaps a s) (fun k => 0 ≤ k ∧ k ≤ M) (fun o => ∃ k', o = .inl k' ∧ 0 ≤ k' ∧ k' ≤ M) (fun k => (gaps.length - k).toNat) (fun k hk => by
    obtain ⟨hk0, hk1⟩ := hk
    show (∃ s', wirelesslaw32_FragmentWhole_l3 FF gaps a k = _ ∧ _) ∨ ∃ o, wirelesslaw32_FragmentWhole_l3 FF gaps a k = _ ∧ _
    unfold wirelesslaw32_FragmentWhole_l3
    obtain ⟨z, hz, hz2⟩ := gap_cond gaps k hk0
    rw [hz, Option.bind_some]
    cases z with
    | false => exact .inr ⟨_, by rw [if_neg (by decide)], k, rfl, hk0, hk1⟩
    | true =>
      have hc := hz2 rfl
      have hw : w64 (k + 1) = k + 1 := by rw [w64_id] <;> omega
      rw [if_pos rfl, feed_ok ha (fun x hx => by simp at hx) (by simp), Option.bind_some, feed_blank]
      rw [if_neg (show ¬ (((0 : Int) != 0) || (len ([] : List T_api_Frame) != 0)) = true from by decide), asm_refl, Option.bind_some, Option.bind_some, if_neg (by decide), hw]
      exact .inl ⟨_, rfl, ⟨by omega, by omega⟩, by omega⟩) FF k ⟨h0, hk⟩ (by unfold FF; omega)
  exact ⟨k', h1, hq⟩
theorem whole_in (f : T_api_Frame) (hg : Good f) (most : Int) (m1 : 1 ≤ most) (m2 : most ≤ 251) (gaps : List Int) (hgl : gaps.length ≤ 140737488355328) (K k : Int) (hk0 : 0 ≤ k) (hK : gaps.length ≤ K) (hk : k ≤ K) (hKb : K ≤ 900000000000000000) :
    ∃ k', iter (fun s => wirelesslaw32_FragmentWhole_l2 FF most gaps (pkts most.toNat (bytesOf f) (nP most.toNat (bytesOf f)), 0) s.1 s.2.1 s.2.2.1 s.2.2.2) FF (k, az, [], 0) = some (.inl (k', az, [f])) ∧ 0 ≤ k' ∧ k' ≤ K + 65536 := by
  have hm : 1 ≤ most.toNat := by omega
  have hn := nP_le (b := bytesOf f) hm
  have hbl := bytesOf_len f
  have hfl := hg.len
  obtain ⟨o, h1, k', rfl, hq⟩ := iter_by (body := fun s : Int × T_api_Assembler × List T_api_Frame × Int => wirelesslaw32_FragmentWhole_l2 FF most gaps (pkts most.toNat (bytesOf f) (nP most.toNat (bytesOf f)), 0) s.1 s.2.1 s.2.2.1 s.2.2.2) (fun s => ∃ j : Nat, s.2.2.2 = (j : Int) ∧ j ≤ nP most.toNat (bytesOf f) ∧ s.2.1 = sA f most.toNat az j ∧ s.2.2.1 = gA f most.toNat j ∧ 0 ≤ s.1 ∧ s.1 ≤ K + j) (fun o => ∃ k', o = .inl (k', az, [f]) ∧ 0 ≤ k' ∧ k' ≤ K + 65536) (fun s => (nP most.toNat (bytesOf f) - s.2.2.2).toNat) (fun s hs => by
    obtain ⟨k, a, g, i⟩ := s
    obtain ⟨j, e1, hj, e2, e3, hk0, hk1⟩ := hs
    simp only at e1 e2 e3 hk0 hk1
    subst e1 e2 e3
    show (∃ s', wirelesslaw32_FragmentWhole_l2 FF most gaps _ k (sA f most.toNat az j) (gA f most.toNat j) (j : Int) = _ ∧ _) ∨ ∃ o, wirelesslaw32_FragmentWhole_l2 FF most gaps _ k (sA f most.toNat az j) (gA f most.toNat j) (j : Int) = _ ∧ _
    unfold wirelesslaw32_FragmentWhole_l2
    by_cases hjn : j < nP most.toNat (bytesOf f)
    · have hlt := nP_lt hm hjn
      obtain ⟨_, q2, q3, q4⟩ := pkt_facts hg hm hlt
      have hv := sA_val hg hm val_az j hj
      have hidx : idx (pkts most.toNat (bytesOf f) (nP most.toNat (bytesOf f))) (j : Int) = some (pkt most.toNat (bytesOf f) j) := by rw [idx_nat, pkts_get hjn]
      rw [if_pos (dt (show (j : Int) < len (pkts most.toNat (bytesOf f) (nP most.toNat (bytesOf f))) from by rw [len_nat, pkts_len]; omega))]
      simp only [hidx, Option.bind_some]
      rw [feed_ok hv q4 (by omega), Option.bind_some, feed_pkt hg _ hm az j hlt]
      have he : (if j = 0 ∧ az.On = true then (13 : Int) else 0) = 0 := if_neg fun e => by cases e.2
      rw [he]
      unfold wirelesslaw32_FragmentWhole_j5
      simp only [hidx, Option.bind_some]
      have hlp := len_nat (pkt most.toNat (bytesOf f) j).Payload
      rw [if_neg (show ¬ ((0 : Int) != 0) = true from by decide), Option.bind_some]
      have d1 : decide (len (pkt most.toNat (bytesOf f) j).Payload < 1) = false := decide_eq_false (by omega)
      have d2 : decide (len (pkt most.toNat (bytesOf f) j).Payload > most) = false := decide_eq_false (by omega)
      rw [d1, if_neg (by decide), Option.bind_some, d2, if_neg (by decide)]
      have hg1 := gA_len f most.toNat j
      have hap : app 32 (gA f most.toNat j) (if (bytesOf f).length ≤ (j + 1) * most.toNat then [f] else []) = some (gA f most.toNat (j + 1)) := by
        rw [app_small (by
          have : (if (bytesOf f).length ≤ (j + 1) * most.toNat then [f] else []).length ≤ 1 := by split <;> simp
          omega) (by omega), gA_succ hlt]
      rw [hap, Option.bind_some]
      obtain ⟨k', g1, g2, g3⟩ := gaps_ok gaps hgl (sA f most.toNat az (j + 1)) (sA_val hg hm val_az (j + 1) hjn) k hk0 (K + j) (by omega) hk1 (by omega)
      rw [g1]
      refine .inl ⟨(k' + 1, sA f most.toNat az (j + 1), gA f most.toNat (j + 1), ((j + 1 : Nat) : Int)), ?_, ⟨j + 1, rfl, hjn, rfl, rfl, by simp only; omega, by simp only; omega⟩, by simp only; omega⟩
      show wirelesslaw32_FragmentWhole_j6 FF _ _ _ _ = _
      unfold wirelesslaw32_FragmentWhole_j6 wirelesslaw32_FragmentWhole_j4
      rw [w64_nat j (by omega), w64_id (by omega) (by omega)]
    · have hje : j = nP most.toNat (bytesOf f) := by omega
      obtain ⟨e1, e2⟩ := sA_end hg hm az
      rw [if_neg (df (show ¬ (j : Int) < len (pkts most.toNat (bytesOf f) (nP most.toNat (bytesOf f))) from by rw [len_nat, pkts_len]; omega))]
      rw [hje, e1, e2]
      exact .inr ⟨_, rfl, k, rfl, hk0, by omega⟩) FF (k, az, [], 0) ⟨0, rfl, by omega, by simp [sA], by simp [gA], hk0, by simp only; omega⟩ (by unfold FF; simp only; omega)
  exact ⟨k', h1, hq⟩
structure FBig (f : T_api_Frame) : Prop where
  ok : FOk f
  len : f.Payload.length ≤ 140737488355328
theorem whole_law (frames : List T_api_Frame) (most : Int) (gaps : List Int) (hf : ∀ f ∈ frames, FBig f) (hgl : gaps.length ≤ 140737488355328) : wirelesslaw32_FragmentWhole FF frames most gaps = some true := by
  unfold wirelesslaw32_FragmentWhole
  by_cases hc : ((decide (len frames > 20) || decide (most < 1)) || decide (most > 251)) = true
  · rw [if_pos hc, example_ok]; rfl
  rw [if_neg hc]
  simp only [Bool.or_eq_true, not_or, decide_eq_true_eq] at hc
  obtain ⟨⟨c1, c2⟩, c3⟩ := hc
  have hno := len_nat frames
  obtain ⟨o, h1, hq⟩ := iter_by (body := fun s : Int × Int × T_api_Assembler × Int => wirelesslaw32_FragmentWhole_l1 FF frames most gaps s.1 s.2.1 s.2.2.1 s.2.2.2) (fun s => ∃ i : Nat, s.2.2.2 = (i : Int) ∧ i ≤ frames.length ∧ s.2.2.1 = az ∧ 0 ≤ s.1 ∧ s.1 ≤ 16384 ∧ 0 ≤ s.2.1 ∧ s.2.1 ≤ gaps.length + i * 65536) (fun o => o = .inl () ∨ o = .inr true) (fun s => (frames.length - s.2.2.2).toNat) (fun s hs => by
    obtain ⟨x, k, a, i⟩ := s
    obtain ⟨i, e1, hi, e2, hx0, hx1, hk0, hk1⟩ := hs
    simp only at e1 e2 hx0 hx1 hk0 hk1
    subst e1 e2
    show (∃ s', wirelesslaw32_FragmentWhole_l1 FF frames most gaps x k az (i : Int) = _ ∧ _) ∨ ∃ o, wirelesslaw32_FragmentWhole_l1 FF frames most gaps x k az (i : Int) = _ ∧ _
    unfold wirelesslaw32_FragmentWhole_l1
    by_cases hin : i < frames.length
    · have hidx : idx frames (i : Int) = some frames[i] := by rw [idx_nat, List.getElem?_eq_getElem hin]
      have hm := hf _ (List.getElem_mem hin)
      obtain ⟨hok, hbig⟩ := hm
      have hlp := len_nat frames[i].Payload
      rw [if_pos (dt (show (i : Int) < len frames from by omega))]
      simp only [hidx, Option.bind_some]
      have hw : w64 (x + len frames[i].Payload) = x + len frames[i].Payload := w64_id (by omega) (by omega)
      have hz : (if decide (w64 (x + len frames[i].Payload) > 16384) = true then some true else some (frames[i].CID == 0)) = some (decide (x + len frames[i].Payload > 16384 ∨ frames[i].CID = 0)) := by
        rw [hw]
        by_cases h : x + len frames[i].Payload > 16384
        · rw [if_pos (dt h), dt (p := _ ∨ _) (.inl h)]
        · have hb : (frames[i].CID == 0) = decide (x + len frames[i].Payload > 16384 ∨ frames[i].CID = 0) := by
            rw [Bool.eq_iff_iff, beq_iff_eq, decide_eq_true_eq]
            exact ⟨.inr, fun e => e.resolve_left h⟩
          rw [if_neg (df h), hb]
      rw [hz, Option.bind_some]
      by_cases hbad : x + len frames[i].Payload > 16384 ∨ frames[i].CID = 0
      · rw [if_pos (dt hbad), example_ok]
        exact .inr ⟨_, rfl, .inr rfl⟩
      · rw [if_neg (df hbad)]
        rw [not_or] at hbad
        have hg : Good frames[i] := ⟨hok, hbad.2, by omega⟩
        rw [split_ok hok, Option.bind_some, hg.spl (by omega) (by omega), if_neg (show ¬ ((0 : Int) != 0) = true from by decide)]
        obtain ⟨k', g1, g2, g3⟩ := whole_in frames[i] hg most (by omega) (by omega) gaps hgl (gaps.length + i * 65536) k hk0 (by omega) hk1 (by omega)
        have hs : sub frames (i : Int) (w64 ((i : Int) + 1)) = some [frames[i]] := by
          rw [w64_nat i (by omega), sub_nat frames i (i + 1) (by omega) (by omega), List.drop_take, show i + 1 - i = 1 from by omega, List.drop_eq_getElem_cons hin]
          rfl
        have hj3 : wirelesslaw32_FragmentWhole_j3 FF frames x (i : Int) frames[i] k' az [frames[i]] = some (.next (x + len frames[i].Payload, k', az, ((i + 1 : Nat) : Int))) := by
          unfold wirelesslaw32_FragmentWhole_j3
          rw [hs, Option.bind_some, same_frames_refl FF _ (by unfold FF; simp) (by simp), Option.bind_some]
          rw [if_neg (show ¬ (((!true) || az.On) || (len az.Buffer != 0)) = true from by decide)]
          unfold wirelesslaw32_FragmentWhole_j2
          rw [hw, w64_nat i (by omega)]
        rw [g1, Option.bind_some]
        exact .inl ⟨(x + len frames[i].Payload, k', az, ((i + 1 : Nat) : Int)), hj3, ⟨i + 1, rfl, hin, rfl, by simp only; omega, by simp only; omega, g2, by simp only; omega⟩, by simp only; omega⟩
    · exact .inr ⟨_, by rw [if_neg (df (show ¬ (i : Int) < len frames from by omega))], .inl rfl⟩) FF (0, 0, az, 0) ⟨0, rfl, by omega, rfl, by simp, by simp, by simp, by simp⟩ (by unfold FF; simp only; omega)
  have h1' : iter (fun s : Int × Int × T_api_Assembler × Int => wirelesslaw32_FragmentWhole_l1 FF frames most gaps s.1 s.2.1 s.2.2.1 s.2.2.2) FF (0, 0, T_api_Assembler.mk false [], 0) = some o := h1
  rw [h1', Option.bind_some]
  rcases hq with rfl | rfl
  · show wirelesslaw32_FragmentWhole_j1 FF = _
    unfold wirelesslaw32_FragmentWhole_j1
    rw [example_ok]
    rfl
  · rfl
end V
end Go.Proofs.Ytpcckohcoajenaa
