/-
  SduDivides: the law.
-/
import Derived.Test.YtfdiabglpgkbeaaLawSduOutputs
import Derived.Test.YtfdiabglpgkbeaaLawSduQueues
namespace Go.Proofs.Ytfdiabglpgkbeaa
namespace V
/-- The first k frames of an SDU. -/
def ck (s : List Int) (m k : Nat) : List (List Int) := (List.range k).map fun i => ((fm s).drop (i * m)).take m
theorem ck_succ (s : List Int) (m k : Nat) : ck s m (k + 1) = ck s m k ++ [((fm s).drop (k * m)).take m] := by simp [ck, List.range_succ]
theorem ck_flat (s : List Int) (m : Nat) : ∀ k, (ck s m k).flatten = (fm s).take (k * m)
  | 0 => by simp [ck]
  | k + 1 => by rw [ck_succ, List.flatten_append, ck_flat s m k, List.flatten_singleton, Nat.succ_mul, List.take_add]
theorem ck_length (s : List Int) (m k : Nat) : (ck s m k).length = k := by simp [ck]
theorem lt_need (L m k : Nat) (hm : 0 < m) : k < (L + m - 1) / m ↔ k * m < L := by
  show k + 1 ≤ _ ↔ _
  rw [Nat.le_div_iff_mul_le hm, Nat.succ_mul]
  omega
def stK (c : T_api_Channel) (s : List Int) (k : Nat) : T_api_Channel := { c with TxCredits := c.TxCredits - k, Sent := (k * c.PeerMPS.toNat : Nat), Out := [s] }
theorem divides_loop (F : Nat) (c : T_api_Channel) (s : List Int) (hF : 5 < F) (hok : ∀ k : Nat, (k : Int) ≤ c.TxCredits → k * c.PeerMPS.toNat < s.length + 2 → Ok (stK c s k)) (hs : Sm c) (hm : 23 ≤ c.PeerMPS) (htx : 0 ≤ c.TxCredits ∧ c.TxCredits ≤ 65535) (hsl : s.length ≤ 4096) :
    ∀ (n k : Nat), (k : Int) ≤ c.TxCredits → k * c.PeerMPS.toNat < s.length + 2 → c.TxCredits - k < n →
    ∃ (K : Nat) (r : T_api_Channel × List (List Int)), iter (fun s : T_api_Channel × List (List Int) => sdu_Output_l1 F s.1 s.2) (n + 1) (stK c s k, ck s c.PeerMPS.toNat k) = some r ∧ K ≤ (s.length + 2 + c.PeerMPS.toNat - 1) / c.PeerMPS.toNat ∧
      r.2 = ck s c.PeerMPS.toNat K ∧ r.1.TxCredits = c.TxCredits - K ∧ (K : Int) ≤ c.TxCredits ∧ ((r.1.Out = [] ∧ K = (s.length + 2 + c.PeerMPS.toNat - 1) / c.PeerMPS.toNat) ∨ (r.1.Out = [s] ∧ K < (s.length + 2 + c.PeerMPS.toNat - 1) / c.PeerMPS.toNat ∧ (K : Int) = c.TxCredits))
  | 0, k, hk, hkm, hn => by omega
  | n + 1, k, hk, hkm, hn => by
    have hneed := (lt_need (s.length + 2) c.PeerMPS.toNat k (by omega)).2 hkm
    by_cases h0 : c.TxCredits - k = 0
    · refine ⟨k, (stK c s k, ck s c.PeerMPS.toNat k), iter_stop ?_, by omega, rfl, rfl, hk, .inr ⟨rfl, hneed, by omega⟩⟩
      show sdu_Output_l1 F (stK c s k) _ = _
      unfold sdu_Output_l1
      rw [if_neg (by simp [stK]; omega)]
    · have hkl : k < 65536 := by omega
      have h1 := sdu_step F (stK c s k) (ck s c.PeerMPS.toNat k) s [] hF (by rw [ck_length]; omega) (hok k hk hkm) rfl (by show c.TxCredits - k > 0; omega)
      have h3 : sdu_Output_l1 F (stK c s k) (ck s c.PeerMPS.toNat k) = some (.next (nxt (stK c s k) s [], ck s c.PeerMPS.toNat k ++ [partOf (stK c s k) s])) := by
        unfold sdu_Output_l1
        rw [if_pos (by simp [stK, len]; omega), h1]
        rfl
      have hp : partOf (stK c s k) s = ((fm s).drop (k * c.PeerMPS.toNat)).take c.PeerMPS.toNat := rfl
      rw [hp, ← ck_succ] at h3
      rw [iter_step h3]
      have hsm : (k + 1) * c.PeerMPS.toNat = k * c.PeerMPS.toNat + c.PeerMPS.toNat := Nat.succ_mul _ _
      by_cases hc : (stK c s k).Sent + (stK c s k).PeerMPS ≥ s.length + 2
      · have hc' : s.length + 2 ≤ (k + 1) * c.PeerMPS.toNat := by
          have : ((k * c.PeerMPS.toNat : Nat) : Int) + c.PeerMPS ≥ s.length + 2 := hc
          omega
        have hne : ¬ (k + 1 < (s.length + 2 + c.PeerMPS.toNat - 1) / c.PeerMPS.toNat) := fun hh => by
          have := (lt_need (s.length + 2) c.PeerMPS.toNat (k + 1) (by omega)).1 hh
          omega
        unfold nxt
        rw [if_pos hc]
        refine ⟨k + 1, ({ stK c s k with TxCredits := (stK c s k).TxCredits - 1, Out := [], Sent := 0 }, ck s c.PeerMPS.toNat (k + 1)), iter_stop ?_, by omega, rfl, ?_, by omega, .inl ⟨rfl, by omega⟩⟩
        · show sdu_Output_l1 F _ _ = _
          unfold sdu_Output_l1
          rw [if_neg (by simp [len])]
        · show c.TxCredits - k - 1 = c.TxCredits - ((k + 1 : Nat) : Int)
          omega
      · have hc' : (k + 1) * c.PeerMPS.toNat < s.length + 2 := by
          have : ¬ (((k * c.PeerMPS.toNat : Nat) : Int) + c.PeerMPS ≥ s.length + 2) := hc
          omega
        have e : nxt (stK c s k) s [] = stK c s (k + 1) := by
          unfold nxt
          rw [if_neg hc]
          unfold stK
          simp only [T_api_Channel.mk.injEq, true_and, and_true]
          refine ⟨by omega, by omega⟩
        rw [e]
        exact divides_loop F c s hF hok hs hm htx hsl n (k + 1) (by omega) hc' (by omega)
theorem form_div (b : List Int) (hb : b.length ≤ 4096) : (irem (len b) 256).bind (fun x => (iquo .i64 (len b) 256).bind fun y => app 1 [wu8 x, wu8 y] b) = some (fm b) := by
  have hn := len_nat b
  unfold irem iquo
  rw [if_neg (by decide), Option.bind_some, if_neg (by decide), Option.bind_some, Int.tmod_eq_emod_of_nonneg (by omega), Int.tdiv_eq_ediv_of_nonneg (by omega), wrap_i64, w64_small (by omega) (by omega), wu8_id (by omega) (by omega), wu8_id (by omega) (by omega), app_small (by simp; omega) (by omega), hn]
  rfl
theorem need_div (L m : Nat) (hL : L ≤ 5000) (hm : 0 < m) (hm2 : m ≤ 4096) : iquo .i64 (w64 ((w64 ((L : Int) + m)) - 1)) m = some (((L + m - 1) / m : Nat) : Int) := by
  have hq := Nat.div_le_self (L + m - 1) m
  generalize hQ : (L + m - 1) / m = Q at hq ⊢
  unfold iquo
  rw [if_neg (by omega), w64_small (x := (L : Int) + m) (by omega) (by omega), w64_small (by omega) (by omega), show (L : Int) + m - 1 = ((L + m - 1 : Nat) : Int) by omega, Int.tdiv_eq_ediv_of_nonneg (by omega), ← Int.natCast_ediv, hQ, wrap_i64, w64_small (by omega) (by omega)]
theorem ck_get (s : List Int) (m k i : Nat) (h : i < k) : (ck s m k)[i]? = some (((fm s).drop (i * m)).take m) := by
  unfold ck
  rw [List.getElem?_map, List.getElem?_range h]
  rfl
theorem dv_step (F : Nat) (m Q i : Nat) (d : T_api_Channel) (fs : List (List Int)) (l fr : List Int) (hx : fs[i]? = some fr) (hlt : i < fs.length) (hn : i < 1000000) (hm : fr.length = m ∨ ¬ (i + 1 < Q)) (hp : 0 < fr.length) (hl : l.length + fr.length ≤ 100000) : wirelesslaw33_SduDivides_l1 F (m : Int) (d, fs) (Q : Int) l i = some (.next (l ++ fr, ((i + 1 : Nat) : Int))) := by
  have hw : w64 ((i : Int) + 1) = ((i + 1 : Nat) : Int) := w64_nat i (by omega)
  have hcl := len_nat fr
  have hfl : (i : Int) < len fs := by rw [len_nat]; omega
  have hbad : ¬ ((len fr != (m : Int)) && decide (((i + 1 : Nat) : Int) < (Q : Int))) = true := by
    rw [hcl]
    simp only [Bool.and_eq_true, bne_iff_ne, decide_eq_true_eq, not_and]
    intro hne hlt
    omega
  have hz : ¬ ((len fr == 0) = true) := by rw [hcl, beq_iff_eq]; omega
  have hi : idx fs (i : Int) = some fr := (idx_nat fs i).trans hx
  have ha : app 1 l fr = some (l ++ fr) := app_small (by omega) (by omega)
  unfold wirelesslaw33_SduDivides_l1
  show (if decide ((i : Int) < len fs) = true then (idx fs (i : Int)).bind _ else _) = _
  rw [if_pos (decide_eq_true hfl), hi, Option.bind_some, hw]
  rw [if_neg hbad, Option.bind_some, Option.bind_some, if_neg hz, Option.bind_some, ha, Option.bind_some]
theorem dv_stop (F : Nat) (m Q : Nat) (d : T_api_Channel) (fs : List (List Int)) (l : List Int) : wirelesslaw33_SduDivides_l1 F (m : Int) (d, fs) (Q : Int) l (fs.length : Int) = some (.done (.inl l)) := by
  unfold wirelesslaw33_SduDivides_l1
  rw [if_neg (by simp [len])]
theorem divides_check (F : Nat) (b : List Int) (m K Q : Nat) (d : T_api_Channel) (hF : 10000 < F) (hm : 0 < m) (hm2 : m ≤ 4096) (hb : b.length ≤ 4096) (hQ : (b.length + 2 + m - 1) / m = Q) (hK : K ≤ Q) :
    iter (fun s : List Int × Int => wirelesslaw33_SduDivides_l1 F (m : Int) (d, ck b m K) (Q : Int) s.1 s.2) F ([], 0) = some (.inl ((fm b).take (K * m))) := by
  have hq := Nat.div_le_self (b.length + 2 + m - 1) m
  have hlt := fun k => lt_need (b.length + 2) m k hm
  rw [hQ] at hq hlt
  have hfl := fm_length b
  have := iter_count (body := fun s : List Int × Int => wirelesslaw33_SduDivides_l1 F (m : Int) (d, ck b m K) (Q : Int) s.1 s.2) (fun i => ((fm b).take (i * m), (i : Int))) K (.inl ((fm b).take (K * m))) (fun i hi => by
    have h1 := (hlt i).1 (by omega)
    have h2 := hlt (i + 1)
    have hsm : (i + 1) * m = i * m + m := Nat.succ_mul i m
    rw [hsm] at h2
    have hcl : (((fm b).drop (i * m)).take m).length = min m (b.length + 2 - i * m) := by rw [List.length_take, List.length_drop, hfl]
    have hst := dv_step F m Q i d (ck b m K) ((fm b).take (i * m)) _ (ck_get b m K i hi) (by rw [ck_length]; exact hi) (by omega) (by
      rw [hcl]
      by_cases hh : i + 1 < Q
      · have := h2.1 hh
        exact .inl (by omega)
      · exact .inr hh) (by rw [hcl]; omega) (by rw [hcl, List.length_take, hfl]; omega)
    rw [← List.take_add, ← hsm] at hst
    exact hst) (by
    have := dv_stop F m Q d (ck b m K) ((fm b).take (K * m))
    rw [ck_length] at this
    exact this) F 0 (by omega) (by omega)
  rw [Nat.zero_mul, List.take_zero] at this
  exact this
theorem divides_law (b : List Int) (mps credits : Int) : wirelesslaw33_SduDivides FF b mps credits = some true := by
  unfold wirelesslaw33_SduDivides
  rw [ex_holds]
  have hlb := len_nat b
  by_cases h0 : ((((decide (len b > 4096) || decide (mps < 23)) || decide (mps > 4096)) || decide (credits < 0)) || decide (credits > 65535)) = true
  · rw [if_pos h0]; rfl
  rw [if_neg h0]
  simp only [Bool.or_eq_true, decide_eq_true_eq] at h0
  obtain ⟨m, rfl⟩ := Int.eq_ofNat_of_zero_le (show 0 ≤ mps by omega)
  have hb : b.length ≤ 4096 := by omega
  rw [show wirelesslaw33_end FF 4096 m credits = some (T_api_Channel.mk 64 65 1 4096 m 4096 m credits credits 0 [] 0 [] (-1) false) from rfl, Option.bind_some]
  generalize hc : T_api_Channel.mk 64 65 1 4096 m 4096 m credits credits 0 [] 0 [] (-1) false = c
  have hs : Sm c := by subst hc; exact ⟨by simp, by simp, by simp⟩
  have hq : sdu_Queue FF c b = some ({ c with Out := [b] }, 0) := by
    unfold sdu_Queue sdu_Queue_j1
    rw [copied_ok FF c (by decide) hs, Option.bind_some]
    subst hc
    rw [if_neg (by simp), if_neg (by simp; omega), if_neg (by simp [len]), join_ok FF [b] (by simp; decide) (by simp) (by simp; omega), Option.bind_some, app_small (by simp) (by omega)]
    simp
  rw [hq, Option.bind_some, if_neg (by simp)]
  have hst : ({ c with Out := [b] } : T_api_Channel) = stK c b 0 := by subst hc; simp [stK]
  have hok : ∀ k : Nat, (k : Int) ≤ c.TxCredits → k * c.PeerMPS.toNat < b.length + 2 → Ok (stK c b k) := fun k hk hkm => by
    subst hc
    simp only at hk hkm
    have e : ((m : Int)).toNat = m := by omega
    rw [e] at hkm
    refine ⟨by simp [stK], by simp [stK], by simp [stK], ?_, by simp [stK], ?_, ?_, ?_, by simp [stK], by simp [stK], ?_, ?_, by simp [stK], by simp [stK]⟩
    · show 23 ≤ (m : Int) ∧ (m : Int) ≤ 4096; omega
    · show 23 ≤ (m : Int) ∧ (m : Int) ≤ 4096; omega
    · show 0 ≤ credits - k ∧ credits - k ≤ 65535; omega
    · show 0 ≤ credits ∧ credits ≤ 65535; omega
    · intro s hs
      have : s = b := by simpa [stK] using hs
      subst this
      show (s.length : Int) ≤ 4096
      omega
    · show 0 ≤ ((k * ((m : Int)).toNat : Nat) : Int) ∧ ((k * ((m : Int)).toNat : Nat) : Int) ≤ 1 + b.length
      rw [e]
      omega
  have hs0 : Sm { c with Out := [b] } := ⟨by simp, fun s hs' => by
    have : s = b := by simpa using hs'
    subst this
    omega, hs.inn⟩
  have hM : c.PeerMPS = m := by subst hc; rfl
  have hT : c.TxCredits = credits := by subst hc; rfl
  have hF : c.Failed = false := by subst hc; rfl
  obtain ⟨K, r, q1, q2, q3, q4, q5, q6⟩ := divides_loop FF c b (by decide) hok hs (by rw [hM]; omega) (by rw [hT]; omega) hb 1048575 0 (by rw [hT]; simp; omega) (by simp) (by rw [hT]; simp; omega)
  have hout : sdu_Output FF { c with Out := [b] } = some r := by
    unfold sdu_Output sdu_Output_j1 sdu_Output_j2
    rw [copied_ok FF _ (by decide) hs0, Option.bind_some, if_neg (by rw [hF]; simp), hst]
    show (iter _ 1048576 (stK c b 0, ck b c.PeerMPS.toNat 0)).bind _ = _
    rw [q1]
    rfl
  rw [hout, Option.bind_some]
  have hfd := form_div b hb
  have e1 : irem (len b) 256 = some ((len b).tmod 256) := by unfold irem; rw [if_neg (by decide)]
  have e2 : iquo .i64 (len b) 256 = some (IntKind.i64.wrap ((len b).tdiv 256)) := by unfold iquo; rw [if_neg (by decide)]
  rw [e1, e2, Option.bind_some, Option.bind_some] at hfd
  rw [e1, e2, Option.bind_some, Option.bind_some, hfd, Option.bind_some]
  have hlf : len (fm b) = ((b.length + 2 : Nat) : Int) := by rw [len_nat, fm_length]
  have hMn : c.PeerMPS.toNat = m := by rw [hM]; omega
  rw [hlf, need_div (b.length + 2) m (by omega) (by omega) (by omega), Option.bind_some]
  rw [hMn] at q2 q3 q6
  rw [hT] at q4 q5 q6
  obtain ⟨d, fr⟩ := r
  simp only at q3 q4 q6
  subst q3
  rw [divides_check FF b m K _ d (by decide) (by omega) (by omega) hb rfl q2, Option.bind_some]
  show wirelesslaw33_SduDivides_j1 FF credits (d, ck b m K) (fm b) _ _ = _
  unfold wirelesslaw33_SduDivides_j1
  have hq' := Nat.div_le_self (b.length + 2 + m - 1) m
  generalize (b.length + 2 + m - 1) / m = Q at *
  have hlen : len (ck b m K) = K := by rw [len_nat, ck_length]
  have hmin : imin (Q : Int) credits = K := by unfold imin; split <;> omega
  rw [if_neg (by
    simp only [hlen, hmin]
    rw [w64_small (x := credits - K) (by omega) (by omega)]
    simp [q4, len, fm_length]
    omega)]
  have hsub : sub (fm b) 0 (len ((fm b).take (K * m))) = some ((fm b).take (K * m)) := by
    have := sub_nat (fm b) 0 ((fm b).take (K * m)).length (by omega) (by rw [List.length_take]; omega)
    rw [show ((0 : Nat) : Int) = 0 from rfl] at this
    rw [len_nat, this, List.drop_zero, List.length_take]
    refine congrArg some (List.take_eq_take_iff.2 ?_)
    generalize K * m = z
    omega
  rw [hsub, Option.bind_some, same_ok, Option.bind_some, ex_holds]
  simp only [hlen]
  rcases q6 with ⟨h1, h2⟩ | ⟨h1, h2, h3⟩
  · simp [h1, h2, len]
  · have : ¬ (K : Int) = Q := by omega
    simp [h1, len, this]
end V
end Go.Proofs.Ytfdiabglpgkbeaa
