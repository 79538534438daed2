/-
  The stream of frames of a channel in one direction, and what each function does to it.
-/
import Derived.Test.YtfdiabglpgkbeaaLawC
namespace Go.Proofs.Ytfdiabglpgkbeaa
namespace V
/-! ### Pieces -/
def chN (m : Nat) : Nat → List Int → List (List Int)
  | 0, _ => []
  | n + 1, l => match l with
    | [] => []
    | x :: r => (x :: r).take m :: chN m n ((x :: r).drop m)
def ch (m : Nat) (l : List Int) : List (List Int) := chN m l.length l
theorem chN_eq {m : Nat} (hm : 0 < m) : ∀ (n k : Nat) (l : List Int), l.length ≤ n → l.length ≤ k → chN m n l = chN m k l
  | n, k, [], _, _ => by cases n <;> cases k <;> rfl
  | 0, _, x :: r, h, _ => by simp at h
  | _ + 1, 0, x :: r, _, h => by simp at h
  | n + 1, k + 1, x :: r, h1, h2 => by
    simp only [chN]
    have hd : ((x :: r).drop m).length ≤ r.length := by rw [List.length_drop, List.length_cons]; omega
    simp only [List.length_cons] at h1 h2
    rw [chN_eq hm n k _ (by omega) (by omega)]
theorem ch_cons {m : Nat} (hm : 0 < m) {l : List Int} (h : l ≠ []) : ch m l = l.take m :: ch m (l.drop m) := by
  cases l with
  | nil => exact absurd rfl h
  | cons x r =>
    unfold ch
    rw [List.length_cons]
    simp only [chN]
    rw [chN_eq hm r.length ((x :: r).drop m).length _ (by rw [List.length_drop, List.length_cons]; omega) (Nat.le_refl _)]
theorem ch_nil (m : Nat) : ch m [] = [] := rfl
/-- What is still to be sent of some SDUs, from a place in the first one on. -/
def togo (m p : Nat) : List (List Int) → List (List Int)
  | [] => []
  | s :: r => ch m ((fm s).drop p) ++ r.flatMap fun t => ch m (fm t)
theorem togo_zero (m : Nat) (l : List (List Int)) : togo m 0 l = l.flatMap fun t => ch m (fm t) := by
  cases l with
  | nil => rfl
  | cons s r => simp [togo]
theorem togo_snoc (m p : Nat) (l : List (List Int)) (x : List Int) (h : l = [] → p = 0) : togo m p (l ++ [x]) = togo m p l ++ ch m (fm x) := by
  cases l with
  | nil => rw [h rfl]; simp [togo]
  | cons s r => simp [togo, List.append_assoc]
theorem togo_cut {m p : Nat} (hm : 0 < m) {s : List Int} {r : List (List Int)} (hp : p < s.length + 2) : togo m p (s :: r) = ((fm s).drop p).take m :: (if p + m ≥ s.length + 2 then togo m 0 r else togo m (p + m) (s :: r)) := by
  have hne : (fm s).drop p ≠ [] := fun e => by
    have := congrArg List.length e
    rw [List.length_drop, fm_length, List.length_nil] at this
    omega
  have e : ∀ q, togo m q (s :: r) = ch m ((fm s).drop q) ++ r.flatMap fun t => ch m (fm t) := fun _ => rfl
  rw [e p, ch_cons hm hne, List.drop_drop, List.cons_append]
  congr 1
  by_cases hc : p + m ≥ s.length + 2
  · rw [if_pos hc, List.drop_of_length_le (by rw [fm_length]; omega), ch_nil, List.nil_append, togo_zero]
  · rw [if_neg hc, e]
theorem togo_ne {m p : Nat} (hm : 0 < m) {s : List Int} {r : List (List Int)} (hp : p < s.length + 2) : togo m p (s :: r) ≠ [] := by
  rw [togo_cut hm hp]
  exact List.cons_ne_nil _ _
theorem ch_len {m : Nat} (hm : 23 ≤ m) : ∀ (n : Nat) (l : List Int), l.length ≤ n → (ch m l).length * 23 ≤ l.length + 22
  | 0, l, h => by
    have : l = [] := List.eq_nil_of_length_eq_zero (by omega)
    subst this
    simp [ch_nil]
  | n + 1, l, h => by
    by_cases hl : l = []
    · subst hl; simp [ch_nil]
    · rw [ch_cons (by omega) hl, List.length_cons]
      have h1 : 0 < l.length := by cases l with
        | nil => exact absurd rfl hl
        | cons => simp
      have h2 : (l.drop m).length = l.length - m := List.length_drop ..
      have ih := ch_len hm n (l.drop m) (by omega)
      by_cases hc : l.length ≤ m
      · have : l.drop m = [] := List.drop_of_length_le hc
        rw [this, ch_nil] at ih ⊢
        simp only [List.length_nil] at *
        omega
      · omega
theorem all_len {m : Nat} (hm : 23 ≤ m) : ∀ (l : List (List Int)), (l.flatMap fun t => ch m (fm t)).length * 23 ≤ l.flatten.length + 24 * l.length
  | [] => by simp
  | s :: r => by
    have h1 := ch_len hm _ (fm s) (Nat.le_refl _)
    have h2 := all_len hm r
    rw [fm_length] at h1
    simp only [List.flatMap_cons, List.length_append, List.flatten_cons, List.length_cons]
    omega
theorem togo_len {m p : Nat} (hm : 23 ≤ m) (l : List (List Int)) : (togo m p l).length * 23 ≤ l.flatten.length + 24 * l.length := by
  cases l with
  | nil => simp [togo]
  | cons s r =>
    have h1 := ch_len hm _ ((fm s).drop p) (Nat.le_refl _)
    have h2 := all_len hm r
    rw [List.length_drop, fm_length] at h1
    simp only [togo, List.length_append, List.flatten_cons, List.length_cons]
    omega

/-! ### The two ends and what is between them -/
theorem Ok.sm {c : T_api_Channel} (h : Ok c) : Sm c := by
  have h1 := h.few
  have h2 := h.want
  have h3 := h.mtu
  have h4 := h.inn
  have h5 := h.pmtu
  refine ⟨by omega, fun s hs => ?_, ?_⟩
  · have := h.short s hs
    omega
  · by_cases e : c.Want = -1
    · have := h4.1 e; omega
    · have := h4.2 (by omega); omega
/-- Where the receiver is in the first SDU that has not arrived. -/
def Rcv (b : T_api_Channel) (mid : List (List Int)) (p : Nat) : Prop :=
  (b.Want = -1 ∧ p = 0) ∨ ∃ s r, mid = s :: r ∧ b.Want = s.length ∧ p = 2 + b.In.length ∧ b.In = s.take b.In.length
structure Inv (mt mp : Int) (a b : T_api_Channel) (frames : List (List Int)) (credits : List Int) (queued got : List (List Int)) : Prop where
  oka : Ok a
  fa : a.Failed = false
  am : a.PeerMTU = mt
  ap : a.PeerMPS = mp
  okb : Ok b
  fb : b.Failed = false
  bm : b.MTU = mt
  bp : b.MPS = mp
  sum : a.TxCredits + frames.length + credits.sum = b.RxCredits
  cpos : ∀ c ∈ credits, 1 ≤ c
  str : ∃ mid p, queued = got ++ mid ∧ frames ++ togo mp.toNat a.Sent.toNat a.Out = togo mp.toNat p mid ∧ Rcv b mid p ∧ ∀ s ∈ mid, (s.length : Int) ≤ mt ∧ ∀ x ∈ s, Byte x
section
variable {mt mp : Int} {a b : T_api_Channel} {frames : List (List Int)} {credits : List Int} {queued got : List (List Int)} {F : Nat}
theorem Inv.mps (h : Inv mt mp a b frames credits queued got) : 23 ≤ mp ∧ mp ≤ 4096 ∧ 23 ≤ mt ∧ mt ≤ 4096 := by
  have h1 := h.oka.pmps
  have h2 := h.oka.pmtu
  rw [h.ap] at h1
  rw [h.am] at h2
  omega
theorem sent_lt {c : T_api_Channel} (h : Ok c) {s : List Int} {r : List (List Int)} (ho : c.Out = s :: r) : c.Sent.toNat < s.length + 2 := by
  have := h.sent
  rw [show lastOf c = 1 + s.length by unfold lastOf; rw [ho]] at this
  omega
theorem sent_nil {c : T_api_Channel} (h : Ok c) (ho : c.Out = []) : c.Sent.toNat = 0 := by
  have := h.sent
  rw [show lastOf c = 0 by unfold lastOf; rw [ho]] at this
  omega
/-- An SDU is queued. -/
theorem Inv.queue (h : Inv mt mp a b frames credits queued got) (hF : 5000 < F) {x : List Int} (hx : x.length ≤ 16384) (hb : ∀ y ∈ x, Byte y) :
    ∃ a' e, sdu_Queue F a x = some (a', e) ∧ Inv mt mp a' b frames credits (if e = 0 then queued ++ [x] else queued) got := by
  have hs := h.oka.sm
  unfold sdu_Queue sdu_Queue_j1
  rw [copied_ok F a (by omega) hs]
  simp only [Option.bind_some]
  rw [if_neg (by rw [h.fa]; decide)]
  by_cases h2 : decide (len x > a.PeerMTU) = true
  · exact ⟨_, _, by rw [if_pos h2], by rw [if_neg (by decide)]; exact h⟩
  rw [if_neg h2]
  by_cases h3 : decide (len a.Out ≥ 64) = true
  · exact ⟨_, _, by rw [if_pos h3], by rw [if_neg (by decide)]; exact h⟩
  rw [if_neg h3]
  have hlb := len_nat x
  have hlo := len_nat a.Out
  simp only [decide_eq_true_eq] at h2 h3
  have ho := h.oka.few
  rw [join_ok F [x] (by simp; omega) (by simp) (by simp; omega)]
  simp only [Option.bind_some, List.flatten_singleton]
  rw [app_small (by simp; omega) (by omega)]
  simp only [Option.bind_some]
  refine ⟨_, _, rfl, ?_⟩
  rw [if_pos rfl]
  obtain ⟨oka, fa, am, ap, okb, fb, bm, bp, sum, cpos, mid, p, q1, q2, q3, q4⟩ := h
  have hoka := oka
  obtain ⟨a1, a2, b1, b2, b3, b4, b5, b6, b7, a4, a5, c1, c2, c3⟩ := oka
  refine ⟨⟨a1, a2, b1, b2, b3, b4, b5, b6, b7, by simp only [List.length_append, List.length_singleton]; omega, fun s hs => ?_, ?_, c2, c3⟩, fa, am, ap, okb, fb, bm, bp, sum, cpos, mid ++ [x], p, ?_, ?_, ?_, ?_⟩
  · rcases List.mem_append.1 hs with hs | hs
    · exact a5 s hs
    · rw [List.mem_singleton] at hs
      subst hs
      show (_ : Int) ≤ a.PeerMTU
      omega
  · unfold lastOf at c1 ⊢
    simp only
    cases hc : a.Out with
    | nil => rw [hc] at c1; simp only [List.nil_append] at c1 ⊢; omega
    | cons s r => rw [hc] at c1; exact c1
  · rw [q1, List.append_assoc]
  · simp only
    have hmid : mid = [] → p = 0 := fun e => by
      rcases q3 with q | ⟨s, r, e2, _⟩
      · exact q.2
      · rw [e] at e2; cases e2
    rw [togo_snoc _ _ _ _ (fun e => sent_nil hoka e), togo_snoc _ _ _ _ hmid, ← List.append_assoc, q2]
  · rcases q3 with q | ⟨s, r, rfl, q⟩
    · exact .inl q
    · exact .inr ⟨s, r ++ [x], rfl, q⟩
  · intro s hs
    rcases List.mem_append.1 hs with hs | hs
    · exact q4 s hs
    · rw [List.mem_singleton] at hs
      subst hs
      exact ⟨by omega, hb⟩
/-- A frame is sent. -/
theorem Inv.frame (h : Inv mt mp a b frames credits queued got) {s : List Int} {r : List (List Int)} (ho : a.Out = s :: r) (ht : a.TxCredits > 0) : Inv mt mp (nxt a s r) b (frames ++ [partOf a s]) credits queued got := by
  have hm := h.mps
  obtain ⟨k1, k2, k3⟩ := nxt_ok h.oka h.oka.sm ho ht
  obtain ⟨oka, fa, am, ap, okb, fb, bm, bp, sum, cpos, mid, p, q1, q2, q3, q4⟩ := h
  have hsl := sent_lt oka ho
  have hse := oka.sent
  refine ⟨k1, ?_, ?_, ?_, okb, fb, bm, bp, ?_, cpos, mid, p, q1, ?_, q3, q4⟩
  · unfold nxt; split <;> exact fa
  · unfold nxt; split <;> exact am
  · unfold nxt; split <;> exact ap
  · rw [k3, List.length_append, List.length_singleton]
    omega
  · rw [← q2, ho, togo_cut (by omega) hsl, List.append_assoc, List.singleton_append]
    unfold partOf nxt
    rw [ap]
    congr 2
    by_cases hc : a.Sent + mp ≥ s.length + 2
    · rw [if_pos hc, if_pos (by omega)]
      rfl
    · rw [if_neg hc, if_neg (by omega)]
      simp only [ho]
      rw [show (a.Sent + mp).toNat = a.Sent.toNat + mp.toNat by omega]
theorem Inv.cut (h : Inv mt mp a b frames credits queued got) {s : List Int} {r : List (List Int)} (ho : a.Out = s :: r) : togo mp.toNat a.Sent.toNat a.Out = partOf a s :: togo mp.toNat (nxt a s r).Sent.toNat (nxt a s r).Out := by
  have hm := h.mps
  have hsl := sent_lt h.oka ho
  have hse := h.oka.sent
  have ap := h.ap
  rw [ho, togo_cut (by omega) hsl]
  unfold partOf nxt
  rw [ap]
  congr 1
  by_cases hc : a.Sent + mp ≥ s.length + 2
  · rw [if_pos hc, if_pos (by omega)]
    rfl
  · rw [if_neg hc, if_neg (by omega)]
    simp only [ho]
    rw [show (a.Sent + mp).toNat = a.Sent.toNat + mp.toNat by omega]
/-- All frames are sent for which there are credits. -/
theorem Inv.outLoop (hF : 5000 < F) : ∀ (n : Nat) (a : T_api_Channel) (l frames : List (List Int)), Inv mt mp a b (frames ++ l) credits queued got → a.TxCredits < n → l.length + a.TxCredits ≤ 100000 →
    ∃ a' l', iter (fun s : T_api_Channel × List (List Int) => sdu_Output_l1 F s.1 s.2) n (a, l) = some (a', l') ∧ Inv mt mp a' b (frames ++ l') credits queued got ∧ (a'.Out = [] ∨ a'.TxCredits = 0) ∧ l'.length + a'.TxCredits = l.length + a.TxCredits ∧ l' ++ togo mp.toNat a'.Sent.toNat a'.Out = l ++ togo mp.toNat a.Sent.toNat a.Out
  | 0, a, l, _, h, hn, _ => by have := h.oka.tx; omega
  | n + 1, a, l, frames, h, hn, hl => by
    have htx := h.oka.tx
    by_cases hc : a.Out ≠ [] ∧ a.TxCredits > 0
    · obtain ⟨s, r, ho⟩ := List.exists_cons_of_ne_nil hc.1
      have h1 := sdu_step F a l s r (by omega) (by omega) h.oka ho hc.2
      have h2 := h.frame ho hc.2
      rw [List.append_assoc] at h2
      have k3 := (nxt_ok h.oka h.oka.sm ho hc.2).2.2
      have h3 : sdu_Output_l1 F a l = some (.next (nxt a s r, l ++ [partOf a s])) := by
        unfold sdu_Output_l1
        rw [if_pos (by rw [ho]; simp [len]; omega), h1]
        rfl
      obtain ⟨a', l', g1, g2, g3, g4, g5⟩ := Inv.outLoop hF n (nxt a s r) (l ++ [partOf a s]) frames h2 (by omega) (by rw [List.length_append, List.length_singleton]; omega)
      refine ⟨a', l', by rw [iter_step h3, g1], g2, g3, ?_, ?_⟩
      · rw [List.length_append, List.length_singleton] at g4
        omega
      · rw [g5, h.cut ho, List.append_assoc]
        rfl
    · have hc' : ¬ (len a.Out > 0 ∧ a.TxCredits > 0) := fun hh => hc ⟨fun e0 => by rw [e0] at hh; simp [len] at hh, hh.2⟩
      refine ⟨a, l, iter_stop ?_, h, ?_, rfl, rfl⟩
      · show sdu_Output_l1 F a l = _
        unfold sdu_Output_l1
        rw [if_neg (by simpa using hc')]
      · by_cases h0 : a.Out = []
        · exact .inl h0
        · exact .inr (by have : ¬ a.TxCredits > 0 := fun hh => hc ⟨h0, hh⟩
                         omega)
theorem Inv.output (h : Inv mt mp a b frames credits queued got) (hF : 100000 < F) :
    ∃ a' l, sdu_Output F a = some (a', l) ∧ Inv mt mp a' b (frames ++ l) credits queued got ∧ (a'.Out = [] ∨ a'.TxCredits = 0) ∧ l.length + a'.TxCredits = a.TxCredits ∧ l ++ togo mp.toNat a'.Sent.toNat a'.Out = togo mp.toNat a.Sent.toNat a.Out := by
  unfold sdu_Output sdu_Output_j1 sdu_Output_j2
  rw [copied_ok F a (by omega) h.oka.sm, Option.bind_some, if_neg (by rw [h.fa]; decide)]
  have htx := h.oka.tx
  obtain ⟨a', l', g1, g2, g3, g4, g5⟩ := Inv.outLoop (F := F) (by omega) F a [] frames (by rw [List.append_nil]; exact h) (by omega) (by simp; omega)
  rw [g1]
  exact ⟨a', l', rfl, g2, g3, by simpa using g4, by simpa using g5⟩
/-- Credits are given. -/
theorem Inv.grant (h : Inv mt mp a b frames credits queued got) (hF : 5000 < F) (n : Int) :
    ∃ b' e, sdu_Grant F b n = some (b', e) ∧ ((e = 0 ∧ 1 ≤ n ∧ Inv mt mp a b' frames (credits ++ [n]) queued got) ∨ (e ≠ 0 ∧ (n < 1 ∨ n > 65535 - b.RxCredits) ∧ b' = b)) := by
  unfold sdu_Grant sdu_Grant_j1 sdu_more
  rw [copied_ok F b (by omega) h.okb.sm]
  simp only [Option.bind_some]
  have hrx := h.okb.rx
  rw [if_neg (by rw [h.fb]; decide)]
  by_cases h2 : n < 1
  · rw [if_pos (by simpa using h2)]
    exact ⟨_, _, rfl, .inr ⟨by decide, .inl h2, rfl⟩⟩
  rw [if_neg (by simpa using h2), w64_small (x := 65535 - b.RxCredits) (by omega) (by omega)]
  by_cases h3 : n > 65535 - b.RxCredits
  · rw [if_pos (by simpa using h3)]
    exact ⟨_, _, rfl, .inr ⟨by decide, .inr h3, rfl⟩⟩
  rw [if_neg (by simpa using h3)]
  refine ⟨_, _, rfl, .inl ⟨rfl, by omega, ?_⟩⟩
  obtain ⟨oka, fa, am, ap, okb, fb, bm, bp, sum, cpos, mid, p, q1, q2, q3, q4⟩ := h
  obtain ⟨a1, a2, b1, b2, b3, b4, b5, b6, b7, a4, a5, c1, c2, c3⟩ := okb
  have e : w64 (b.RxCredits + n) = b.RxCredits + n := w64_small (by omega) (by omega)
  refine ⟨oka, fa, am, ap, ⟨a1, a2, b1, b2, b3, b4, b5, ?_, b7, a4, a5, c1, c2, c3⟩, fb, bm, bp, ?_, fun c hc => ?_, mid, p, q1, q2, q3, q4⟩
  · show 0 ≤ w64 _ ∧ w64 _ ≤ 65535
    rw [e]; omega
  · show _ = w64 _
    rw [e, List.sum_append, List.sum_singleton]; omega
  · rcases List.mem_append.1 hc with hc | hc
    · exact cpos c hc
    · rw [List.mem_singleton] at hc; omega
theorem sum_nonneg : ∀ (l : List Int), (∀ c ∈ l, 1 ≤ c) → 0 ≤ l.sum
  | [], _ => by simp
  | c :: l, h => by
    have := h c (by simp)
    have := sum_nonneg l fun c hc => h c (by simp [hc])
    rw [List.sum_cons]; omega
/-- Credits arrive. -/
theorem Inv.credit {c : Int} {cs : List Int} (h : Inv mt mp a b frames (c :: cs) queued got) (hF : 5000 < F) : ∃ a', sdu_Credit F a c = some (a', 0) ∧ Inv mt mp a' b frames cs queued got ∧ a'.Out = a.Out ∧ a'.Sent = a.Sent := by
  unfold sdu_Credit sdu_Credit_j1 sdu_more
  rw [copied_ok F a (by omega) h.oka.sm]
  simp only [Option.bind_some]
  have hrx := h.oka.tx
  have hb := h.okb.rx
  have hsum := h.sum
  have h1 := h.cpos c (by simp)
  have h2 := sum_nonneg cs fun c hc => h.cpos c (by simp [hc])
  rw [List.sum_cons] at hsum
  rw [if_neg (by rw [h.fa]; decide), if_neg (c := decide (c < 1) = true) (by rw [decide_eq_true_eq]; omega), w64_small (x := 65535 - a.TxCredits) (by omega) (by omega), if_neg (c := decide (c > 65535 - a.TxCredits) = true) (by rw [decide_eq_true_eq]; omega)]
  have e : w64 (a.TxCredits + c) = a.TxCredits + c := w64_small (by omega) (by omega)
  refine ⟨_, rfl, ?_, rfl, rfl⟩
  obtain ⟨oka, fa, am, ap, okb, fb, bm, bp, sum, cpos, mid, p, q1, q2, q3, q4⟩ := h
  obtain ⟨a1, a2, b1, b2, b3, b4, b5, b6, b7, a4, a5, c1, c2, c3⟩ := oka
  refine ⟨⟨a1, a2, b1, b2, b3, b4, ?_, b6, b7, a4, a5, c1, c2, c3⟩, fa, am, ap, okb, fb, bm, bp, ?_, fun c hc => cpos c (by simp [hc]), mid, p, q1, q2, q3, q4⟩
  · show 0 ≤ w64 _ ∧ w64 _ ≤ 65535
    rw [e]; omega
  · show w64 _ + _ + _ = _
    rw [e]; omega
/-- A frame arrives. -/
theorem Inv.input {f : List Int} {fs : List (List Int)} (h : Inv mt mp a b (f :: fs) credits queued got) (hF : 5000 < F) : ∃ b' l, sdu_Input F b f = some (b', l, 0) ∧ Inv mt mp a b' fs credits queued (got ++ l) ∧ l.length ≤ 1 := by
  have hm := h.mps
  have htx := h.oka.tx
  have hrx := h.okb.rx
  have hsum := h.sum
  have h2 := sum_nonneg credits h.cpos
  rw [List.length_cons] at hsum
  obtain ⟨oka, fa, am, ap, okb, fb, bm, bp, sum, cpos, mid, p, q1, q2, q3, q4⟩ := h
  have hr0 : b.RxCredits ≠ 0 := by omega
  have hwant := okb.want
  have hinn := okb.inn
  -- the SDU that is under way
  obtain ⟨s, r, rfl⟩ : ∃ s r, mid = s :: r := by
    cases mid with
    | nil => rw [show togo mp.toNat p [] = [] from rfl, List.cons_append] at q2; cases q2
    | cons s r => exact ⟨s, r, rfl⟩
  obtain ⟨hsm, hby⟩ := q4 s (by simp)
  have hp : p < s.length + 2 := by
    rcases q3 with ⟨_, q⟩ | ⟨s', r', e, e1, e2, _⟩
    · omega
    · injection e with e _; subst e
      have := hinn.2 (by omega)
      omega
  rw [togo_cut (by omega) hp, List.cons_append] at q2
  injection q2 with hf q2
  have hfl : f.length = min mp.toNat (s.length + 2 - p) := by rw [hf, List.length_take, List.length_drop, fm_length]
  have hfm : ∀ x ∈ fm s, Byte x := by
    intro x hx
    unfold fm at hx
    rcases List.mem_append.1 hx with hx | hx
    · simp only [List.mem_cons, List.not_mem_nil, or_false] at hx
      rcases hx with rfl | rfl
      · unfold Byte; omega
      · unfold Byte; omega
    · exact hby x hx
  have hfb : ∀ x ∈ f, Byte x := fun x hx => hfm x (by rw [hf] at hx; exact List.mem_of_mem_drop (List.mem_of_mem_take hx))
  have hin := okb.sm.inn
  -- what is taken
  have key : ∃ part, tkn b f = (part, (s.length : Int), 0) ∧ b.In ++ part = s.take (b.In.length + part.length) ∧ 2 + b.In.length + part.length = p + f.length := by
    unfold tkn
    rw [if_neg hr0, if_neg (by rw [len_nat, bp]; omega)]
    rcases q3 with ⟨e1, e2⟩ | ⟨s', r', e, e1, e2, e3⟩
    · have hi0 : b.In = [] := List.eq_nil_of_length_eq_zero (hinn.1 e1)
      subst e2
      rw [if_pos e1]
      rw [List.drop_zero] at hf
      obtain ⟨k, hk⟩ : ∃ k, mp.toNat = k + 2 := ⟨mp.toNat - 2, by omega⟩
      have hf2 : f = (s.length : Int) % 256 :: (s.length : Int) / 256 :: s.take k := by rw [hf, hk]; rfl
      have hsk : (s.take k).length ≤ s.length := by rw [List.length_take]; omega
      rw [hf2]
      simp only
      rw [if_neg (by omega), show (s.length : Int) % 256 + 256 * ((s.length : Int) / 256) = s.length by omega]
      refine ⟨_, rfl, ?_, ?_⟩
      · rw [hi0, List.nil_append, List.length_nil, Nat.zero_add, List.length_take]
        by_cases hc : k ≤ s.length
        · rw [Nat.min_eq_left hc]
        · rw [List.take_of_length_le (by omega), List.take_of_length_le (by omega)]
      · rw [hi0]; simp; omega
    · injection e with e _; subst e
      have hlt := hinn.2 (by omega)
      rw [if_neg (by omega), if_neg (by rw [len_nat]; omega), if_neg (by rw [len_nat, len_nat]; omega), e1]
      refine ⟨f, rfl, ?_, by omega⟩
      have hd : (fm s).drop p = s.drop b.In.length := by
        rw [e2]; unfold fm
        rw [List.drop_append]
        simp
      rw [hd] at hf
      have : s.take (b.In.length + f.length) = s.take b.In.length ++ (s.drop b.In.length).take f.length := List.take_add
      rw [this, ← e3]
      congr 1
      rw [hf]
      generalize s.drop b.In.length = X
      rw [List.length_take]
      by_cases hc : mp.toNat ≤ X.length
      · rw [Nat.min_eq_left hc]
      · rw [Nat.min_eq_right (by omega), List.take_length, List.take_of_length_le (by omega)]
  obtain ⟨part, k1, k2, k3⟩ := key
  have hpl : part.length ≤ s.length := by
    have := congrArg List.length k2
    rw [List.length_append, List.length_take] at this
    omega
  have hgk := grown_ok (part := part) (want := s.length) okb.sm okb hr0 (by omega) (by rw [bm]; exact hsm)
  have e : w64 (b.RxCredits - 1) = b.RxCredits - 1 := w64_small (by omega) (by omega)
  have hrun : sdu_Input F b f = some (grown b part s.length) := by
    unfold sdu_Input
    rw [copied_ok F b (by omega) okb.sm, Option.bind_some, if_neg (by rw [fb]; decide), taken_ok F b f okb.sm (by omega) hfb okb, Option.bind_some, k1]
    rw [if_neg (by simp)]
    exact sdu_grown F b part s.length hF okb.sm (by omega)
  have hjl : (b.In ++ part).length = b.In.length + part.length := List.length_append ..
  unfold grown at hrun hgk
  rw [e] at hrun hgk
  by_cases hc : len (b.In ++ part) < (s.length : Int)
  · rw [if_pos hc] at hrun hgk
    rw [len_nat, hjl] at hc
    refine ⟨_, _, hrun, ⟨oka, fa, am, ap, hgk.1, fb, bm, bp, ?_, cpos, s :: r, p + f.length, ?_, ?_, ?_, q4⟩, by simp⟩
    · show _ = b.RxCredits - 1
      omega
    · rw [List.append_nil]; exact q1
    · rw [q2, if_neg (by omega)]
      congr 1
      omega
    · exact .inr ⟨s, r, rfl, rfl, by show _ = 2 + (b.In ++ part).length; omega, by show b.In ++ part = _; rw [hjl]; exact k2⟩
  · rw [if_neg hc] at hrun hgk
    rw [len_nat, hjl] at hc
    have hall : b.In ++ part = s := by rw [k2, List.take_of_length_le (by omega)]
    refine ⟨_, _, hrun, ⟨oka, fa, am, ap, hgk.1, fb, bm, bp, ?_, cpos, r, 0, ?_, ?_, .inl ⟨rfl, rfl⟩, fun t ht => q4 t (by simp [ht])⟩, by simp⟩
    · show _ = b.RxCredits - 1
      omega
    · rw [hall, q1, List.append_assoc]; rfl
    · rw [q2, if_pos (by omega)]
/-- Nothing is under way, and nothing is left to be sent. -/
theorem Inv.done (h : Inv mt mp a b [] credits queued got) (ho : a.Out = []) : got = queued := by
  have hm := h.mps
  obtain ⟨oka, fa, am, ap, okb, fb, bm, bp, sum, cpos, mid, p, q1, q2, q3, q4⟩ := h
  cases mid with
  | nil => rw [q1, List.append_nil]
  | cons s r =>
    exfalso
    have hp : p < s.length + 2 := by
      rcases q3 with ⟨_, q⟩ | ⟨s', r', e, e1, e2, _⟩
      · omega
      · injection e with e _; subst e
        have := okb.inn.2 (by omega)
        omega
    rw [ho] at q2
    exact togo_ne (by omega) hp q2.symm
end
end V
end Go.Proofs.Ytfdiabglpgkbeaa
