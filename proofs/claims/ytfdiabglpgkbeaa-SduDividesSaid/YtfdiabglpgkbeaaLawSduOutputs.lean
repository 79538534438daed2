/-
  SduOutputs: the law.
-/
import Derived.Test.YtfdiabglpgkbeaaLawB
namespace Go.Proofs.Ytfdiabglpgkbeaa
namespace V
def fm (s : List Int) : List Int := [(s.length : Int) % 256, (s.length : Int) / 256] ++ s
theorem sdu_form_ok (F : Nat) (s : List Int) (hF : 5 < F) (hs : s.length ≤ 4096) : sdu_form F s = some (fm s) := by
  unfold sdu_form fm
  have e1 : ishr .i64 (len s) 8 = some ((s.length : Int) / 256) := by
    unfold ishr
    rw [if_neg (by decide), len_nat, show (2 : Int) ^ (min (Int.toNat 8) IntKind.i64.bits) = 256 by decide, Int.fdiv_eq_ediv_of_nonneg _ (by omega)]
  have e2 : wu8 (len s) = (s.length : Int) % 256 := rfl
  have e3 : wu8 ((s.length : Int) / 256) = (s.length : Int) / 256 := wu8_id (by omega) (by omega)
  rw [e1, Option.bind_some, e2, e3, join_ok F _ (by simp; omega) (by simp) (by simp; omega)]
  simp
theorem ref_form_ok (F : Nat) (s : List Int) (hF : 5 < F) (hs : s.length ≤ 4096) : wirelessref33_Form F s = some (fm s) := by
  unfold wirelessref33_Form wirelessref23_Put wirelessref23_Put_j1
  have e0 : wu64 (len s) = s.length := wu64_id (by simp [len]) (by simp [len]; omega)
  have e1 : iter (fun t : Int × List Int × Int => wirelessref23_Put_l1 F 2 t.1 t.2.1 t.2.2) F ((s.length : Int), [], 0) = some [(s.length : Int) % 256, (s.length : Int) / 256] := by
    obtain ⟨G, hG⟩ : ∃ G, F = G + 3 := ⟨F - 3, by omega⟩
    have step : ∀ (n : Int) (l : List Int) (i : Int), 0 ≤ n → n ≤ 4096 → 0 ≤ i → i < 2 → l.length ≤ 5 → wirelessref23_Put_l1 F 2 n l i = some (.next (n / 256, l ++ [n % 256], i + 1)) := fun n l i h0 h1 hi hi2 hl => by
      unfold wirelessref23_Put_l1 irem iquo
      rw [if_pos (by simpa using hi2), if_neg (by decide), Option.bind_some, Int.tmod_eq_emod_of_nonneg h0, wu8_id (by omega) (by omega), app_small (by simp; omega) (by omega), Option.bind_some, Int.tdiv_eq_ediv_of_nonneg h0, wrap_u64, wu64_id (by omega) (by omega), if_neg (by decide), Option.bind_some, w64_small (by omega) (by omega)]
    rw [hG, iter_step (s' := ((s.length : Int) / 256, [(s.length : Int) % 256], 1)) (by rw [← hG]; exact step _ [] 0 (by omega) (by omega) (by omega) (by omega) (by simp)),
      iter_step (s' := ((s.length : Int) / 256 / 256, [(s.length : Int) % 256, (s.length : Int) / 256], 2)) (by
        rw [← hG]
        have := step ((s.length : Int) / 256) [(s.length : Int) % 256] 1 (by omega) (by omega) (by omega) (by omega) (by simp)
        rw [show (s.length : Int) / 256 % 256 = (s.length : Int) / 256 by omega] at this
        exact this)]
    exact iter_stop (by
      rw [← hG]
      show wirelessref23_Put_l1 F 2 _ _ 2 = _
      unfold wirelessref23_Put_l1
      rw [if_neg (by decide)])
  rw [e0, e1, Option.bind_some, Option.bind_some, app_small (by simp; omega) (by omega)]
  rfl
theorem fm_length (s : List Int) : (fm s).length = s.length + 2 := by simp [fm]
/-- The frame that is next, and the end behind it. -/
def partOf (c : T_api_Channel) (s : List Int) : List Int := ((fm s).drop c.Sent.toNat).take c.PeerMPS.toNat
def nxt (c : T_api_Channel) (s : List Int) (r : List (List Int)) : T_api_Channel :=
  if c.Sent + c.PeerMPS ≥ s.length + 2 then { c with TxCredits := c.TxCredits - 1, Out := r, Sent := 0 } else { c with TxCredits := c.TxCredits - 1, Sent := c.Sent + c.PeerMPS }
theorem sdu_step (F : Nat) (c : T_api_Channel) (l : List (List Int)) (s : List Int) (r : List (List Int)) (hF : 5 < F) (hl : l.length ≤ 1000000) (h : Ok c) (ho : c.Out = s :: r) (ht : c.TxCredits > 0) :
    sdu_Output_1 F c l = some (nxt c s r, l ++ [partOf c s]) := by
  have hsl := h.short s (by rw [ho]; simp)
  have hp := h.pmtu
  have hm := h.pmps
  have hse := h.sent
  have htx := h.tx
  rw [show lastOf c = 1 + s.length by unfold lastOf; rw [ho]] at hse
  unfold sdu_Output_1
  have hL : len (fm s) = s.length + 2 := by rw [len_nat, fm_length]; omega
  have e1 : imax 0 (imin c.Sent (len (fm s))) = c.Sent := by unfold imax imin; rw [hL]; split <;> split <;> omega
  have e2 : w64 (len (fm s) - c.Sent) = s.length + 2 - c.Sent := by rw [hL, w64_small (by omega) (by omega)]
  have e3 : imax 1 (imin c.PeerMPS (s.length + 2 - c.Sent)) = min c.PeerMPS (s.length + 2 - c.Sent) := by unfold imax imin; split <;> split <;> omega
  have e4 : imin (min c.PeerMPS (s.length + 2 - c.Sent)) (s.length + 2 - c.Sent) = ((min c.PeerMPS (s.length + 2 - c.Sent)).toNat : Int) := by unfold imin; split <;> omega
  have e5 : w64 (c.Sent + min c.PeerMPS (s.length + 2 - c.Sent)) = c.Sent + min c.PeerMPS (s.length + 2 - c.Sent) := w64_small (by omega) (by omega)
  have e6 : w64 (c.TxCredits - 1) = c.TxCredits - 1 := w64_small (by omega) (by omega)
  have e7 : sub (fm s) c.Sent (len (fm s)) = some ((fm s).drop c.Sent.toNat) := by
    have := sub_nat (fm s) c.Sent.toNat (fm s).length (by rw [fm_length]; omega) (by omega)
    rw [List.take_length, show ((c.Sent.toNat : Nat) : Int) = c.Sent by omega] at this
    exact this
  have e8 : cpy (List.replicate (min c.PeerMPS (s.length + 2 - c.Sent)).toNat 0) ((fm s).drop c.Sent.toNat) = partOf c s := by
    unfold cpy partOf
    have hd : (List.replicate (min c.PeerMPS (s.length + 2 - c.Sent)).toNat (0 : Int)).drop ((fm s).drop c.Sent.toNat).length = [] := List.drop_of_length_le (by rw [List.length_replicate, List.length_drop, fm_length]; omega)
    rw [hd, List.length_replicate, List.append_nil]
    by_cases hc : c.PeerMPS ≤ s.length + 2 - c.Sent
    · rw [show (min c.PeerMPS (s.length + 2 - c.Sent)).toNat = c.PeerMPS.toNat by omega]
    · rw [List.take_of_length_le (by rw [List.length_drop, fm_length]; omega), List.take_of_length_le (by rw [List.length_drop, fm_length]; omega)]
  rw [show idx c.Out 0 = some s by rw [ho]; rfl, Option.bind_some, sdu_form_ok F s hF (by omega), Option.bind_some]
  simp only [e1, e2, e3]
  rw [e4, mk_small (by omega) (by omega), Option.bind_some, e7, Option.bind_some, e8, app_small (by simp; omega) (by omega), Option.bind_some, e5, e6, hL]
  unfold nxt
  by_cases hc : c.Sent + c.PeerMPS ≥ s.length + 2
  · have hsub : sub c.Out 1 (len c.Out) = some r := by
      have := sub_nat c.Out 1 c.Out.length (by rw [ho]; simp) (by omega)
      rw [List.take_length, ho] at this
      rw [ho]
      exact this
    rw [if_pos (by simp; omega), hsub, Option.bind_some, if_pos hc]
  · rw [if_neg (by simp; omega), if_neg hc, show c.Sent + min c.PeerMPS (s.length + 2 - c.Sent) = c.Sent + c.PeerMPS by omega]
theorem ref_step (F : Nat) (c : T_api_Channel) (c0 : T_api_Channel) (l : List (List Int)) (s : List Int) (r : List (List Int)) (hF : 5 < F) (hl : l.length ≤ 1000000) (h : Ok c) (hs : Sm c) (hf : c0.Failed = false) (e : c = { c0 with TxCredits := c.TxCredits, Out := c.Out, Sent := c.Sent }) (ho : c.Out = s :: r) (ht : c.TxCredits > 0) :
    wirelessref33_Output_l1 F c0 c l = some (.next (nxt c s r, l ++ [partOf c s])) := by
  have hsl := h.short s (by rw [ho]; simp)
  have hp := h.pmtu
  have hm := h.pmps
  have hse := h.sent
  have htx := h.tx
  have hout := hs.out
  rw [show lastOf c = 1 + s.length by unfold lastOf; rw [ho]] at hse
  have em : c0.PeerMPS = c.PeerMPS := by rw [e]
  unfold wirelessref33_Output_l1
  have hL : len (fm s) = s.length + 2 := by rw [len_nat, fm_length]; omega
  have e2 : w64 (c.Sent + c0.PeerMPS) = c.Sent + c.PeerMPS := by rw [em, w64_small (by omega) (by omega)]
  have e6 : w64 (c.TxCredits - 1) = c.TxCredits - 1 := w64_small (by omega) (by omega)
  have e3 : imin (len (fm s)) (c.Sent + c.PeerMPS) = min ((s.length : Int) + 2) (c.Sent + c.PeerMPS) := by unfold imin; rw [hL]; split <;> omega
  have e7 : sub (fm s) c.Sent (min ((s.length : Int) + 2) (c.Sent + c.PeerMPS)) = some (partOf c s) := by
    have := sub_nat (fm s) c.Sent.toNat (min ((s.length : Int) + 2) (c.Sent + c.PeerMPS)).toNat (by omega) (by rw [fm_length]; omega)
    rw [show ((c.Sent.toNat : Nat) : Int) = c.Sent by omega, show (((min ((s.length : Int) + 2) (c.Sent + c.PeerMPS)).toNat : Nat) : Int) = min ((s.length : Int) + 2) (c.Sent + c.PeerMPS) by omega] at this
    rw [this]
    unfold partOf
    rw [List.drop_take]
    by_cases hc : c.Sent + c.PeerMPS ≤ s.length + 2
    · rw [show (min ((s.length : Int) + 2) (c.Sent + c.PeerMPS)).toNat - c.Sent.toNat = c.PeerMPS.toNat by omega]
    · rw [List.take_of_length_le (by rw [List.length_drop, fm_length]; omega), List.take_of_length_le (by rw [List.length_drop, fm_length]; omega)]
  rw [if_pos (by rw [hf, ho]; simp [len]; omega), show idx c.Out 0 = some s by rw [ho]; rfl, Option.bind_some, ref_form_ok F s hF (by omega), Option.bind_some]
  simp only [e2, e3]
  have hpl : (partOf c s).length ≤ 5000 := by unfold partOf; rw [List.length_take, List.length_drop, fm_length]; omega
  rw [e7, Option.bind_some, app_small (l := ([] : List Int)) (by simp; omega) (by omega), Option.bind_some, List.nil_append, app_small (by simp; omega) (by omega), Option.bind_some, e6, hL]
  unfold nxt
  by_cases hc : c.Sent + c.PeerMPS ≥ s.length + 2
  · have hsub : sub c.Out 1 (len c.Out) = some r := by
      have := sub_nat c.Out 1 c.Out.length (by rw [ho]; simp) (by omega)
      rw [List.take_length, ho] at this
      rw [ho]
      exact this
    have hr : r.length ≤ 1000 := by rw [ho] at hout; simp at hout; omega
    rw [if_pos (by simp; omega), hsub, Option.bind_some, app_small (l := ([] : List (List Int))) (by simp; omega) (by omega), Option.bind_some, List.nil_append, if_pos hc]
    rw [e]
  · rw [if_neg (by simp; omega), if_neg hc, show min ((s.length : Int) + 2) (c.Sent + c.PeerMPS) = c.Sent + c.PeerMPS by omega]
    rw [e]
theorem nxt_ok {c : T_api_Channel} {s : List Int} {r : List (List Int)} (h : Ok c) (hs : Sm c) (ho : c.Out = s :: r) (ht : c.TxCredits > 0) : Ok (nxt c s r) ∧ Sm (nxt c s r) ∧ (nxt c s r).TxCredits = c.TxCredits - 1 := by
  obtain ⟨a1, a2, b1, b2, b3, b4, b5, b6, b7, a4, a5, c1, c2, c3⟩ := h
  obtain ⟨s1, s2, s3⟩ := hs
  rw [show lastOf c = 1 + s.length by unfold lastOf; rw [ho]] at c1
  rw [ho] at a4 a5 s1 s2
  simp only [List.length_cons] at a4 s1
  unfold nxt
  by_cases hc : c.Sent + c.PeerMPS ≥ s.length + 2
  · rw [if_pos hc]
    refine ⟨⟨a1, a2, b1, b2, b3, b4, by simp only; omega, b6, b7, by simp only; omega, fun x hx => a5 x (List.mem_cons_of_mem _ hx), ?_, c2, c3⟩, ⟨by simp only; omega, fun x hx => s2 x (List.mem_cons_of_mem _ hx), s3⟩, rfl⟩
    unfold lastOf
    simp only
    cases r with
    | nil => simp
    | cons y r => simp only; omega
  · rw [if_neg hc]
    refine ⟨⟨a1, a2, b1, b2, b3, b4, by simp only; omega, b6, b7, by simp only [ho, List.length_cons]; omega, by simp only [ho]; exact a5, ?_, c2, c3⟩, ⟨by simp only [ho, List.length_cons]; omega, by simp only [ho]; exact s2, s3⟩, rfl⟩
    unfold lastOf
    simp only [ho]
    omega
theorem loops_agree (F : Nat) (c0 : T_api_Channel) (hF : 5 < F) (hf : c0.Failed = false) : ∀ (n : Nat) (c : T_api_Channel) (l : List (List Int)), Ok c → Sm c → c = { c0 with TxCredits := c.TxCredits, Out := c.Out, Sent := c.Sent } → c.TxCredits < n → l.length + c.TxCredits ≤ 100000 →
    ∃ r, iter (fun s : T_api_Channel × List (List Int) => sdu_Output_l1 F s.1 s.2) n (c, l) = some r ∧ iter (fun s : T_api_Channel × List (List Int) => wirelessref33_Output_l1 F c0 s.1 s.2) n (c, l) = some r ∧ Ok r.1 ∧ Sm r.1 ∧ r.2.length ≤ 100000 ∧ r.1 = { c0 with TxCredits := r.1.TxCredits, Out := r.1.Out, Sent := r.1.Sent }
  | 0, c, l, h, _, _, hn, _ => by have := h.tx; omega
  | n + 1, c, l, h, hs, e, hn, hl => by
    have htx := h.tx
    by_cases hc : c.Out ≠ [] ∧ c.TxCredits > 0
    · obtain ⟨s, r, ho⟩ := List.exists_cons_of_ne_nil hc.1
      have h1 := sdu_step F c l s r hF (by omega) h ho hc.2
      have h2 := ref_step F c c0 l s r hF (by omega) h hs hf e ho hc.2
      obtain ⟨k1, k2, k3⟩ := nxt_ok h hs ho hc.2
      have h3 : sdu_Output_l1 F c l = some (.next (nxt c s r, l ++ [partOf c s])) := by
        unfold sdu_Output_l1
        rw [if_pos (by rw [ho]; simp [len]; omega), h1]
        rfl
      obtain ⟨q, q1, q2, q3⟩ := loops_agree F c0 hF hf n (nxt c s r) (l ++ [partOf c s]) k1 k2 (by unfold nxt; split <;> rw [e]) (by omega) (by simp; omega)
      exact ⟨q, by rw [iter_step h3, q1], by rw [iter_step h2, q2], q3⟩
    · have hc' : ¬ (len c.Out > 0 ∧ c.TxCredits > 0) := fun hh => hc ⟨fun e0 => by rw [e0] at hh; simp [len] at hh, hh.2⟩
      refine ⟨(c, l), iter_stop ?_, iter_stop ?_, h, hs, by simp only; omega, e⟩
      · show sdu_Output_l1 F c l = _
        unfold sdu_Output_l1
        rw [if_neg (by simpa using hc')]
      · show wirelessref33_Output_l1 F c0 c l = _
        unfold wirelessref33_Output_l1
        rw [if_neg (by rw [hf]; simpa using hc'), ← e]
theorem outputs_law (c : T_api_Channel) (h : GCh c) : wirelesslaw33_SduOutputs FF c = some true := by
  unfold wirelesslaw33_SduOutputs
  obtain ⟨l, hl⟩ := light_ok FF c (by decide)
  rw [hl, ex_holds, ref_check FF c (by decide) h]
  by_cases h1 : ¬ l = true
  · have : l = false := by simpa using h1
    subst this
    rfl
  have h1 : l = true := by simpa using h1
  subst h1
  by_cases h2 : ¬ chk c = 0
  · simp [h2]
  have h2 : chk c = 0 := by omega
  have hs := light_true FF c (by decide) h hl
  have hok := chk_ok.1 h2
  have key : ∃ r, sdu_Output FF c = some r ∧ wirelessref33_Output FF c = some r ∧ Ok r.1 ∧ Sm r.1 ∧ r.2.length ≤ 100000 := by
    unfold sdu_Output wirelessref33_Output wirelessref33_Output_j1 sdu_Output_j1 sdu_Output_j2
    rw [copied_ok FF c (by decide) hs, Option.bind_some]
    have htx := hok.tx
    by_cases hf : c.Failed = true
    · refine ⟨(c, []), by rw [if_pos hf], ?_, hok, hs, by simp⟩
      have : iter (fun s : T_api_Channel × List (List Int) => wirelessref33_Output_l1 FF c s.1 s.2) FF (c, []) = some (c, []) := iter_stop (n := 1048575) (by
        show wirelessref33_Output_l1 FF c c [] = _
        unfold wirelessref33_Output_l1
        rw [if_neg (by simp [hf])])
      rw [this]
      rfl
    · have hf' : c.Failed = false := by simpa using hf
      obtain ⟨r, q1, q2, q3, q4, q5, q6⟩ := loops_agree FF c (by decide) hf' FF c [] hok hs rfl (by unfold FF; omega) (by simp; omega)
      refine ⟨r, by rw [if_neg hf, q1]; rfl, by rw [q2, Option.bind_some, ← q6], q3, q4, q5⟩
  obtain ⟨r, q1, q2, q3, q4, q5⟩ := key
  have e1 := channel_ok FF r.1 (by decide) (by have := q4.out; omega)
  have e2 := lists_ok FF r.2 (Nat.lt_of_le_of_lt q5 (by decide)) (by omega)
  have e3 : wirelessref33_Check FF r.1 = some 0 := by rw [ref_check FF r.1 (by decide) q4.gch, chk_ok.2 q3]
  simp [h2, q1, q2, e1, e2, e3]
end V
end Go.Proofs.Ytfdiabglpgkbeaa
