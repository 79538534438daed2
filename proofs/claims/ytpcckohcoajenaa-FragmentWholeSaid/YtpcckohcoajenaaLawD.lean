/-
  Frames: the packets of a frame give it back.
-/
import Derived.Test.YtpcckohcoajenaaLawC
namespace Go.Proofs.Ytpcckohcoajenaa
namespace V
/-- A frame that is encoded. -/
structure Good (f : T_api_Frame) : Prop where
  ok : FOk f
  cid : f.CID ≠ 0
  len : f.Payload.length ≤ 65531
theorem Good.enc {f : T_api_Frame} (h : Good f) : V.enc f = (bytesOf f, 0) := by
  unfold V.enc
  rw [if_neg h.cid, if_neg (by have := h.len; omega)]
theorem hd_take {b : List Int} {k : Nat} (h : 4 ≤ b.length) (hk : 4 ≤ k) : hd (b.take k) = hd b := by
  obtain ⟨x, y, z, u, r, rfl⟩ := four h
  obtain ⟨k, rfl⟩ : ∃ k', k = k' + 1 + 1 + 1 + 1 := ⟨k - 4, by omega⟩
  simp only [List.take_succ_cons, hd]
theorem fil_take {f : T_api_Frame} (h : Good f) (k : Nat) (e : Int) : fil ((bytesOf f).take k) e = if k < (bytesOf f).length then (⟨true, (bytesOf f).take k⟩, [], e) else (az, [f], e) := by
  have hl := h.len
  have hL := bytesOf_len f
  have hhd := hd_bytesOf h.ok h.len
  by_cases hk : k < (bytesOf f).length
  · rw [if_pos hk]
    have htl : ((bytesOf f).take k).length = k := by rw [List.length_take]; omega
    unfold fil
    by_cases h4 : k < 4
    · rw [if_pos (show ((bytesOf f).take k).length < 4 from by omega)]
    · rw [if_neg (show ¬ ((bytesOf f).take k).length < 4 from by omega), hd_take (by omega) (by omega), hhd]
      rw [if_neg h.cid, if_neg (by simp only; omega), if_pos (by simp only; omega)]
  · rw [if_neg hk, List.take_of_length_le (by omega)]
    unfold fil
    rw [if_neg (show ¬ (bytesOf f).length < 4 from by omega), hhd]
    rw [if_neg h.cid, if_neg (by simp only; omega), if_neg (by simp only; omega)]
    rfl
/-- The assembler, and what came, after j packets. -/
def sA (f : T_api_Frame) (m : Nat) (a0 : T_api_Assembler) (j : Nat) : T_api_Assembler :=
  if j = 0 then a0 else if j * m < (bytesOf f).length then ⟨true, (bytesOf f).take (j * m)⟩ else az
def gA (f : T_api_Frame) (m j : Nat) : List T_api_Frame := if j ≠ 0 ∧ (bytesOf f).length ≤ j * m then [f] else []
theorem pkt_facts {f : T_api_Frame} (h : Good f) {m j : Nat} (hm : 1 ≤ m) (hj : j * m < (bytesOf f).length) : (pkt m (bytesOf f) j).Payload ≠ [] ∧ 1 ≤ (pkt m (bytesOf f) j).Payload.length ∧ (pkt m (bytesOf f) j).Payload.length ≤ m ∧ ∀ x ∈ (pkt m (bytesOf f) j).Payload, Byte x := by
  have hlen : (pkt m (bytesOf f) j).Payload.length = min m ((bytesOf f).length - j * m) := by simp [pkt]
  refine ⟨fun e => ?_, by omega, by omega, fun x hx => bytesOf_byte h.ok x (List.mem_of_mem_drop (List.mem_of_mem_take hx))⟩
  rw [e] at hlen
  simp at hlen
  omega
theorem feed_pkt {f : T_api_Frame} (h : Good f) (m : Nat) (hm : 1 ≤ m) (a0 : T_api_Assembler) (j : Nat) (hj : j * m < (bytesOf f).length) :
    feed (sA f m a0 j) (pkt m (bytesOf f) j) = (sA f m a0 (j + 1), if (bytesOf f).length ≤ (j + 1) * m then [f] else [], if j = 0 ∧ a0.On = true then 13 else 0) := by
  obtain ⟨hne, _, _, _⟩ := pkt_facts h hm hj
  have hfin : ∀ e, fil ((bytesOf f).take ((j + 1) * m)) e = (sA f m a0 (j + 1), if (bytesOf f).length ≤ (j + 1) * m then [f] else [], e) := fun e => by
    rw [fil_take h]
    unfold sA
    rw [if_neg (show ¬ (j + 1 = 0) from by omega)]
    by_cases hk : (j + 1) * m < (bytesOf f).length
    · rw [if_pos hk, if_pos hk, if_neg (by omega)]
    · rw [if_neg hk, if_neg hk, if_pos (by omega)]
  unfold feed
  rw [if_neg (show ¬ ((pkt m (bytesOf f) j).LLID = 1 ∧ (pkt m (bytesOf f) j).Payload = []) from fun e => hne e.2)]
  by_cases h0 : j = 0
  · subst h0
    have hll : (pkt m (bytesOf f) 0).LLID = 2 := by simp [pkt]
    rw [if_neg (show ¬ (((pkt m (bytesOf f) 0).LLID ≠ 1 ∧ (pkt m (bytesOf f) 0).LLID ≠ 2) ∨ (pkt m (bytesOf f) 0).Payload = []) from fun e => e.elim (fun e => e.2 hll) hne), if_pos hll]
    have hpl : (pkt m (bytesOf f) 0).Payload = (bytesOf f).take ((0 + 1) * m) := by simp [pkt]
    rw [hpl, hfin]
    have : sA f m a0 0 = a0 := by simp [sA]
    rw [this]
    simp
  · have hll : (pkt m (bytesOf f) j).LLID = 1 := by simp [pkt, h0]
    rw [if_neg (show ¬ (((pkt m (bytesOf f) j).LLID ≠ 1 ∧ (pkt m (bytesOf f) j).LLID ≠ 2) ∨ (pkt m (bytesOf f) j).Payload = []) from fun e => e.elim (fun e => e.1 hll) hne), if_neg (by rw [hll]; decide)]
    have hs : sA f m a0 j = ⟨true, (bytesOf f).take (j * m)⟩ := by unfold sA; rw [if_neg h0, if_pos hj]
    rw [hs]
    rw [if_neg (show ¬ ((⟨true, (bytesOf f).take (j * m)⟩ : T_api_Assembler).On = false) from by simp)]
    have hap : (bytesOf f).take (j * m) ++ (pkt m (bytesOf f) j).Payload = (bytesOf f).take ((j + 1) * m) := by
      rw [Nat.succ_mul, List.take_add]
      rfl
    simp only [hap, hfin]
    rw [if_neg (show ¬ (j = 0 ∧ a0.On = true) from fun e => h0 e.1)]
theorem sA_val {f : T_api_Frame} (h : Good f) {m : Nat} (hm : 1 ≤ m) {a0 : T_api_Assembler} (h0 : Val a0) : ∀ j, j ≤ nP m (bytesOf f) → Val (sA f m a0 j)
  | 0, _ => by simpa [sA] using h0
  | j + 1, hj => by
    have hlt := nP_lt hm (show j < nP m (bytesOf f) from hj)
    have h1 := feed_pkt h m hm a0 j hlt
    have h2 := feed_val (sA_val h hm h0 j (by omega)) (pkt_facts h hm hlt).2.2.2
    rw [h1] at h2
    exact h2
theorem sA_end {f : T_api_Frame} (h : Good f) {m : Nat} (hm : 1 ≤ m) (a0 : T_api_Assembler) : sA f m a0 (nP m (bytesOf f)) = az ∧ gA f m (nP m (bytesOf f)) = [f] := by
  have h1 := nP_ge (b := bytesOf f) hm
  have h2 := bytesOf_len f
  have h3 : nP m (bytesOf f) ≠ 0 := fun e => by rw [e] at h1; omega
  constructor
  · unfold sA
    rw [if_neg h3, if_neg (by omega)]
  · unfold gA
    rw [if_pos ⟨h3, h1⟩]
theorem gA_succ {f : T_api_Frame} {m j : Nat} (hj : j * m < (bytesOf f).length) : gA f m j ++ (if (bytesOf f).length ≤ (j + 1) * m then [f] else []) = gA f m (j + 1) := by
  unfold gA
  rw [if_neg (show ¬ (j ≠ 0 ∧ (bytesOf f).length ≤ j * m) from by omega), List.nil_append]
  by_cases h : (bytesOf f).length ≤ (j + 1) * m
  · rw [if_pos h, if_pos ⟨by omega, h⟩]
  · rw [if_neg h, if_neg (fun e => h e.2)]
theorem gA_len (f : T_api_Frame) (m j : Nat) : (gA f m j).length ≤ 1 := by
  unfold gA
  split <;> simp
theorem Good.spl {f : T_api_Frame} (h : Good f) {most : Int} (h1 : 1 ≤ most) (h2 : most ≤ 251) : V.spl f most = (pkts most.toNat (bytesOf f) (nP most.toNat (bytesOf f)), 0) := by
  unfold V.spl
  rw [h.enc]
  rw [if_neg (by simp), if_neg (by omega)]
/-! ### Recovering -/
theorem recovers_law (l : List T_api_Packet) (f : T_api_Frame) (most : Int) (hp : ∀ p ∈ l, ∀ x ∈ p.Payload, Byte x) (hf : FOk f) : wirelesslaw32_FragmentRecovers FF l f most = some true := by
  unfold wirelesslaw32_FragmentRecovers
  obtain ⟨c, h1, h2⟩ := light_ok l
  rw [h1, Option.bind_some]
  by_cases hc : (((((!c) || (f.CID == 0)) || decide (len f.Payload > 4096)) || decide (most < 1)) || decide (most > 251)) = true
  · rw [if_pos hc, example_ok]; rfl
  rw [if_neg hc]
  simp only [Bool.or_eq_true, not_or, Bool.not_eq_true', Bool.not_eq_false, decide_eq_true_eq, beq_iff_eq] at hc
  obtain ⟨⟨⟨⟨c1, c2⟩, c3⟩, c4⟩, c5⟩ := hc
  have hlp := len_nat f.Payload
  have hg : Good f := ⟨hf, c2, by omega⟩
  obtain ⟨hl, hpl⟩ := h2 c1
  have hno := len_nat l
  obtain ⟨o, h5, hv⟩ := iter_by (body := fun s : T_api_Assembler × Int => wirelesslaw32_FragmentRecovers_l2 FF l s.1 s.2) (fun s => Val s.1 ∧ 0 ≤ s.2 ∧ s.2 ≤ l.length) Val (fun s => (l.length - s.2).toNat) (fun s hs => by
    obtain ⟨x, i⟩ := s
    obtain ⟨hx, hi0, hi1⟩ := hs
    simp only at hx hi0 hi1
    show (∃ s', wirelesslaw32_FragmentRecovers_l2 FF l x i = _ ∧ _) ∨ ∃ o, wirelesslaw32_FragmentRecovers_l2 FF l x i = _ ∧ _
    unfold wirelesslaw32_FragmentRecovers_l2
    by_cases hc : i < len l
    · have hil : i < l.length := by omega
      obtain ⟨p, hy, hy'⟩ := idx_lt hi0 hil
      have hm := List.mem_of_getElem? hy'
      have hw : w64 (i + 1) = i + 1 := by rw [w64_id] <;> omega
      rw [if_pos (dt hc), hy, Option.bind_some, feed_ok hx (hp p hm) (by have := hpl p hm; omega), Option.bind_some, hw]
      exact .inl ⟨_, rfl, ⟨feed_val hx (hp p hm), by simp only; omega, by simp only; omega⟩, by simp only; omega⟩
    · exact .inr ⟨_, by rw [if_neg (df hc)], hx⟩) FF (az, 0) ⟨val_az, by simp, by simp⟩ (by unfold FF; simp only; omega)
  have h5' : iter (fun s : T_api_Assembler × Int => wirelesslaw32_FragmentRecovers_l2 FF l s.1 s.2) FF (T_api_Assembler.mk false [], 0) = some o := h5
  rw [h5', Option.bind_some]
  unfold wirelesslaw32_FragmentRecovers_j1
  rw [split_ok hf, Option.bind_some, hg.spl (by omega) (by omega)]
  rw [if_neg (show ¬ ((0 : Int) != 0) = true from by decide)]
  have hm : 1 ≤ most.toNat := by omega
  have hn := nP_le (b := bytesOf f) hm
  have hbl := bytesOf_len f
  have := iter_count (body := fun s : T_api_Assembler × List T_api_Frame × Int => wirelesslaw32_FragmentRecovers_l1 FF (pkts most.toNat (bytesOf f) (nP most.toNat (bytesOf f)), 0) s.1 s.2.1 s.2.2) (fun j => (sA f most.toNat o j, gA f most.toNat j, (j : Int))) (nP most.toNat (bytesOf f)) (.inl (az, [f])) (fun j hj => by
    have hlt := nP_lt hm hj
    obtain ⟨_, _, q3, q4⟩ := pkt_facts hg hm hlt
    show wirelesslaw32_FragmentRecovers_l1 FF _ (sA f most.toNat o j) (gA f most.toNat j) (j : Int) = _
    unfold wirelesslaw32_FragmentRecovers_l1
    rw [if_pos (dt (show (j : Int) < len (pkts most.toNat (bytesOf f) (nP most.toNat (bytesOf f))) from by rw [len_nat, pkts_len]; omega))]
    simp only
    rw [idx_nat, pkts_get hj, Option.bind_some, feed_ok (sA_val hg hm hv j (by omega)) q4 (by omega), Option.bind_some, feed_pkt hg _ hm o j hlt]
    unfold wirelesslaw32_FragmentRecovers_j3
    have hcond : ¬ (((if j = 0 ∧ o.On = true then (13 : Int) else 0) != 0) && decide ((j : Int) > 0)) = true := by
      intro e
      rw [Bool.and_eq_true] at e
      have e2 := of_decide_eq_true e.2
      rw [if_neg (by omega)] at e
      exact absurd e.1 (by decide)
    have hg1 := gA_len f most.toNat j
    have hap : app 32 (gA f most.toNat j) (if (bytesOf f).length ≤ (j + 1) * most.toNat then [f] else []) = some (gA f most.toNat (j + 1)) := by
      rw [app_small (by
        have : (if (bytesOf f).length ≤ (j + 1) * most.toNat then [f] else []).length ≤ 1 := by split <;> simp
        omega) (by omega), gA_succ hlt]
    rw [if_neg hcond]
    show (app 32 (gA f most.toNat j) (if (bytesOf f).length ≤ (j + 1) * most.toNat then [f] else [])).bind _ = _
    rw [hap, Option.bind_some, w64_nat j (by omega)]) (by
    obtain ⟨e1, e2⟩ := sA_end hg hm o
    show wirelesslaw32_FragmentRecovers_l1 FF _ (sA f most.toNat o (nP most.toNat (bytesOf f))) (gA f most.toNat (nP most.toNat (bytesOf f))) _ = _
    rw [e1, e2]
    unfold wirelesslaw32_FragmentRecovers_l1
    rw [if_neg (df (show ¬ ((nP most.toNat (bytesOf f) : Nat) : Int) < len (pkts most.toNat (bytesOf f) (nP most.toNat (bytesOf f))) from by rw [len_nat, pkts_len]; omega))]) FF 0 (by omega) (by unfold FF; omega)
  have h0 : (sA f most.toNat o 0, gA f most.toNat 0, ((0 : Nat) : Int)) = (o, ([] : List T_api_Frame), (0 : Int)) := by simp [sA, gA]
  rw [h0] at this
  rw [this]
  show wirelesslaw32_FragmentRecovers_j2 FF f az [f] = _
  unfold wirelesslaw32_FragmentRecovers_j2
  rw [same_frames_refl FF _ (by unfold FF; simp) (by simp), Option.bind_some, if_pos (show (true && !az.On) = true from rfl), example_ok]
  rfl
end V
end Go.Proofs.Ytpcckohcoajenaa
