/-
  SduCredits: the two ends, what is between them, step by step.
-/
import Derived.Test.YtfdiabglpgkbeaaLawD
namespace Go.Proofs.Ytfdiabglpgkbeaa
namespace V
section
variable {mt mp : Int} {F : Nat}
theorem Inv.gotq {a b : T_api_Channel} {frames : List (List Int)} {credits : List Int} {queued got : List (List Int)} (h : Inv mt mp a b frames credits queued got) : got.length ≤ queued.length ∧ queued.take got.length = got := by
  obtain ⟨mid, p, q1, _⟩ := h.str
  rw [q1]
  simp
theorem sub_tail {α : Type} (x : α) (l : List α) : sub (x :: l) 1 (len (x :: l)) = some l := by
  have := sub_nat (x :: l) 1 (x :: l).length (by simp) (by simp)
  rw [List.take_length] at this
  exact this
/-- Frames arrive, at most so many. -/
theorem in_loop (hF : 5000 < F) (w : T_wirelesslaw33_wire) (x : T_wirelesslaw33_Step) (hN : 0 ≤ x.N ∧ x.N ≤ 255) (hq : w.queued.length ≤ 1000) : ∀ (k n : Nat) (b : T_api_Channel) (fr g : List (List Int)) (i : Int), k < n → 0 ≤ i → i + k = x.N → Inv mt mp w.a b fr w.credits w.queued g →
    ∃ b' fr' g', iter (fun s : T_wirelesslaw33_wire × Int => wirelesslaw33_wire_step_l1 F w x s.1 s.2) n ({ w with b := b, frames := fr, got := g, bad := false }, i) = some { w with b := b', frames := fr', got := g', bad := false } ∧ Inv mt mp w.a b' fr' w.credits w.queued g' ∧ fr'.length = fr.length - k
  | _, 0, _, _, _, _, h, _, _, _ => by omega
  | 0, n + 1, b, fr, g, i, _, hi, hk, h => by
    refine ⟨b, fr, g, iter_stop ?_, h, by omega⟩
    show wirelesslaw33_wire_step_l1 F w x _ i = _
    unfold wirelesslaw33_wire_step_l1
    rw [w64_small (x := x.N) (by omega) (by omega), if_neg (by simp; omega)]
  | k + 1, n + 1, b, [], g, i, _, hi, hk, h => by
    refine ⟨b, [], g, iter_stop ?_, h, by simp⟩
    show wirelesslaw33_wire_step_l1 F w x _ i = _
    unfold wirelesslaw33_wire_step_l1
    rw [if_neg (by simp [len])]
  | k + 1, n + 1, b, f :: fs, g, i, hkn, hi, hk, h => by
    obtain ⟨b1, l, e1, h1, hl⟩ := h.input hF
    have hg := h.gotq.1
    obtain ⟨b', fr', g', r1, r2, r3⟩ := in_loop hF w x hN hq k n b1 fs (g ++ l) (i + 1) (by omega) (by omega) (by omega) h1
    refine ⟨b', fr', g', ?_, r2, by rw [r3, List.length_cons]; omega⟩
    rw [iter_step (s' := ({ w with b := b1, frames := fs, got := g ++ l, bad := false }, i + 1)) ?_]
    · exact r1
    show wirelesslaw33_wire_step_l1 F w x _ i = _
    unfold wirelesslaw33_wire_step_l1 wirelesslaw33_wire_step_j4 wirelesslaw33_wire_step_j5
    have hlen : len (f :: fs) > 0 := by rw [len_nat, List.length_cons]; omega
    rw [w64_small (x := x.N) (by omega) (by omega), if_pos (by simp only [Bool.and_eq_true, decide_eq_true_eq]; exact ⟨⟨by omega, hlen⟩, rfl⟩), idx_zero]
    simp only [Option.bind_some]
    rw [e1]
    simp only [Option.bind_some]
    rw [sub_tail, Option.bind_some, app_small (by omega) (by omega), Option.bind_some, w64_small (x := i + 1) (by omega) (by omega)]
    rfl
/-- Credits arrive, at most so many. -/
theorem cr_loop (hF : 5000 < F) (w : T_wirelesslaw33_wire) (x : T_wirelesslaw33_Step) (hN : 0 ≤ x.N ∧ x.N ≤ 255) : ∀ (k n : Nat) (a : T_api_Channel) (cs : List Int) (i : Int), k < n → 0 ≤ i → i + k = x.N → Inv mt mp a w.b w.frames cs w.queued w.got →
    ∃ a' cs', iter (fun s : T_wirelesslaw33_wire × Int => wirelesslaw33_wire_step_l2 F w x s.1 s.2) n ({ w with a := a, credits := cs, bad := false }, i) = some { w with a := a', credits := cs', bad := false } ∧ Inv mt mp a' w.b w.frames cs' w.queued w.got ∧ cs'.length = cs.length - k ∧ a'.Out = a.Out ∧ a'.Sent = a.Sent
  | _, 0, _, _, _, h, _, _, _ => by omega
  | 0, n + 1, a, cs, i, _, hi, hk, h => by
    refine ⟨a, cs, iter_stop ?_, h, by omega, rfl, rfl⟩
    show wirelesslaw33_wire_step_l2 F w x _ i = _
    unfold wirelesslaw33_wire_step_l2
    rw [w64_small (x := x.N) (by omega) (by omega), if_neg (by simp; omega)]
  | k + 1, n + 1, a, [], i, _, hi, hk, h => by
    refine ⟨a, [], iter_stop ?_, h, by simp, rfl, rfl⟩
    show wirelesslaw33_wire_step_l2 F w x _ i = _
    unfold wirelesslaw33_wire_step_l2
    rw [if_neg (by simp [len])]
  | k + 1, n + 1, a, c :: cs, i, hkn, hi, hk, h => by
    obtain ⟨a1, e1, h1, h2, h3⟩ := h.credit hF
    obtain ⟨a', cs', r1, r2, r3, r4, r5⟩ := cr_loop hF w x hN k n a1 cs (i + 1) (by omega) (by omega) (by omega) h1
    refine ⟨a', cs', ?_, r2, by rw [r3, List.length_cons]; omega, r4.trans h2, r5.trans h3⟩
    rw [iter_step (s' := ({ w with a := a1, credits := cs, bad := false }, i + 1)) ?_]
    · exact r1
    show wirelesslaw33_wire_step_l2 F w x _ i = _
    unfold wirelesslaw33_wire_step_l2 wirelesslaw33_wire_step_j8 wirelesslaw33_wire_step_j9
    have hlen : len (c :: cs) > 0 := by rw [len_nat, List.length_cons]; omega
    rw [w64_small (x := x.N) (by omega) (by omega), if_pos (by simp only [Bool.and_eq_true, decide_eq_true_eq]; exact ⟨⟨by omega, hlen⟩, rfl⟩), idx_zero]
    simp only [Option.bind_some]
    rw [e1]
    simp only [Option.bind_some]
    rw [sub_tail, Option.bind_some, w64_small (x := i + 1) (by omega) (by omega)]
    rfl
/-- What holds at each moment: at most n SDUs of at most m bytes, at most k grants under way. -/
structure WI (mt mp : Int) (n k m : Nat) (w : T_wirelesslaw33_wire) : Prop where
  inv : Inv mt mp w.a w.b w.frames w.credits w.queued w.got
  ok : w.bad = false
  ql : w.queued.length ≤ n
  cl : w.credits.length ≤ k
  qb : w.queued.flatten.length ≤ m
theorem WI.mono {n k m n' k' m' : Nat} {w : T_wirelesslaw33_wire} (h : WI mt mp n k m w) (h1 : n ≤ n') (h2 : k ≤ k') (h3 : m ≤ m') : WI mt mp n' k' m' w :=
  ⟨h.inv, h.ok, Nat.le_trans h.ql h1, Nat.le_trans h.cl h2, Nat.le_trans h.qb h3⟩
theorem wire_self {w : T_wirelesslaw33_wire} (h : w.bad = false) : w = { w with b := w.b, frames := w.frames, got := w.got, bad := false } := by cases w; simp_all
theorem wire_self2 {w : T_wirelesslaw33_wire} (h : w.bad = false) : w = { w with a := w.a, credits := w.credits, bad := false } := by cases w; simp_all
def StepOk (x : T_wirelesslaw33_Step) : Prop := x.SDU.length ≤ 16384 ∧ (∀ y ∈ x.SDU, Byte y) ∧ 0 ≤ x.N ∧ x.N ≤ 255
theorem WI.frl {n k m : Nat} {w : T_wirelesslaw33_wire} (h : WI mt mp n k m w) : w.frames.length ≤ 65535 := by
  have h1 := h.inv.sum
  have h2 := h.inv.oka.tx
  have h3 := h.inv.okb.rx
  have h4 := sum_nonneg _ h.inv.cpos
  omega
theorem step2 (hF : 5000 < F) {n k m : Nat} {w : T_wirelesslaw33_wire} {x : T_wirelesslaw33_Step} (h : WI mt mp n k m w) (hx : StepOk x) (hn : n ≤ 1000) (hk : (remp x.Kind 5 == 2) = true) :
    ∃ w', wirelesslaw33_wire_step F w x = some w' ∧ WI mt mp n k m w' ∧ w'.a = w.a ∧ w'.credits = w.credits ∧ w'.queued = w.queued ∧ w'.frames.length = w.frames.length - x.N.toNat := by
  obtain ⟨hi, ok, ql, cl, qb⟩ := h
  obtain ⟨_, _, hN⟩ := hx
  obtain ⟨b', fr', g', r1, r2, r3⟩ := in_loop hF w x hN (by omega) x.N.toNat F w.b w.frames w.got 0 (by omega) (by omega) (by omega) hi
  rw [← wire_self ok] at r1
  have e : remp x.Kind 5 = 2 := by simpa using hk
  unfold wirelesslaw33_wire_step
  rw [e, if_neg (by decide), if_neg (by decide), if_pos (by decide), r1]
  exact ⟨_, rfl, ⟨r2, rfl, ql, cl, qb⟩, rfl, rfl, rfl, r3⟩
theorem step4 (hF : 5000 < F) {n k m : Nat} {w : T_wirelesslaw33_wire} {x : T_wirelesslaw33_Step} (h : WI mt mp n k m w) (hx : StepOk x) (hk : (remp x.Kind 5 == 4) = true) :
    ∃ w', wirelesslaw33_wire_step F w x = some w' ∧ WI mt mp n k m w' ∧ w'.b = w.b ∧ w'.frames = w.frames ∧ w'.queued = w.queued ∧ w'.got = w.got ∧ w'.credits.length = w.credits.length - x.N.toNat ∧ w'.a.Out = w.a.Out ∧ w'.a.Sent = w.a.Sent := by
  obtain ⟨hi, ok, ql, cl, qb⟩ := h
  obtain ⟨_, _, hN⟩ := hx
  obtain ⟨a', cs', r1, r2, r3, r4, r5⟩ := cr_loop hF w x hN x.N.toNat F w.a w.credits 0 (by omega) (by omega) (by omega) hi
  rw [← wire_self2 ok] at r1
  have e : remp x.Kind 5 = 4 := by simpa using hk
  unfold wirelesslaw33_wire_step
  rw [e, if_neg (by decide), if_neg (by decide), if_neg (by decide), if_neg (by decide), if_pos (by decide), r1]
  exact ⟨_, rfl, ⟨r2, rfl, ql, by show cs'.length ≤ k; omega, qb⟩, rfl, rfl, rfl, rfl, r3, r4, r5⟩
theorem step3 (hF : 5000 < F) {n k m : Nat} {w : T_wirelesslaw33_wire} {x : T_wirelesslaw33_Step} (h : WI mt mp n k m w) (hx : StepOk x) (hkk : k ≤ 1000) (hk : (remp x.Kind 5 == 3) = true) :
    ∃ w', wirelesslaw33_wire_step F w x = some w' ∧ WI mt mp n (k + 1) m w' ∧ w'.a = w.a ∧ w'.frames = w.frames ∧ w'.queued = w.queued ∧ w'.got = w.got ∧ ((w'.credits = w.credits ++ [x.N]) ∨ ((x.N < 1 ∨ x.N > 65535 - w.b.RxCredits) ∧ w'.credits = w.credits ∧ w'.b = w.b)) := by
  obtain ⟨hi, ok, ql, cl, qb⟩ := h
  obtain ⟨_, _, hN⟩ := hx
  have e : remp x.Kind 5 = 3 := by simpa using hk
  have e2 : w64 x.N = x.N := w64_small (by omega) (by omega)
  unfold wirelesslaw33_wire_step
  rw [e, if_neg (by decide), if_neg (by decide), if_neg (by decide), if_pos (by decide), e2]
  obtain ⟨b', er, r1, r2⟩ := hi.grant hF x.N
  rw [r1, Option.bind_some]
  unfold wirelesslaw33_wire_step_j6 wirelesslaw33_wire_step_j7
  rcases r2 with ⟨rfl, _, r2⟩ | ⟨r2, r3, rfl⟩
  · rw [if_pos (by simp), e2, app_small (by simp; omega) (by omega), Option.bind_some]
    exact ⟨_, rfl, ⟨r2, ok, ql, by show (w.credits ++ [x.N]).length ≤ k + 1; simp; omega, qb⟩, rfl, rfl, rfl, rfl, .inl rfl⟩
  · rw [if_neg (by simpa using r2)]
    exact ⟨_, rfl, ⟨hi, ok, ql, by show w.credits.length ≤ k + 1; omega, qb⟩, rfl, rfl, rfl, rfl, .inr ⟨r3, rfl, rfl⟩⟩
theorem step1 (hF : 100000 < F) {n k m : Nat} {w : T_wirelesslaw33_wire} {x : T_wirelesslaw33_Step} (h : WI mt mp n k m w) (hk : (remp x.Kind 5 == 1) = true) :
    ∃ w' l, wirelesslaw33_wire_step F w x = some w' ∧ WI mt mp n k m w' ∧ w'.b = w.b ∧ w'.frames = w.frames ++ l ∧ w'.credits = w.credits ∧ w'.queued = w.queued ∧ w'.got = w.got ∧ (w'.a.Out = [] ∨ w'.a.TxCredits = 0) ∧ l.length + w'.a.TxCredits = w.a.TxCredits ∧ l ++ togo mp.toNat w'.a.Sent.toNat w'.a.Out = togo mp.toNat w.a.Sent.toNat w.a.Out := by
  have hfr := h.frl
  obtain ⟨hi, ok, ql, cl, qb⟩ := h
  have e : remp x.Kind 5 = 1 := by simpa using hk
  unfold wirelesslaw33_wire_step
  rw [e, if_neg (by decide), if_pos (by decide)]
  obtain ⟨a', l, r1, r2, r3, r4, r5⟩ := hi.output hF
  have htx := hi.oka.tx
  have htx2 := r2.oka.tx
  rw [r1, Option.bind_some, app_small (by simp only; omega) (by omega), Option.bind_some]
  exact ⟨_, l, rfl, ⟨r2, ok, ql, cl, qb⟩, rfl, rfl, rfl, rfl, rfl, r3, r4, r5⟩
theorem step0 (hF : 5000 < F) {n k m : Nat} {w : T_wirelesslaw33_wire} {x : T_wirelesslaw33_Step} (h : WI mt mp n k m w) (hn : n ≤ 1000) (hx : StepOk x) (hk : (remp x.Kind 5 == 0) = true) :
    ∃ w', wirelesslaw33_wire_step F w x = some w' ∧ WI mt mp (n + 1) k (m + x.SDU.length) w' := by
  obtain ⟨hi, ok, ql, cl, qb⟩ := h
  obtain ⟨hs, hb, hN⟩ := hx
  have e : remp x.Kind 5 = 0 := by simpa using hk
  unfold wirelesslaw33_wire_step
  rw [e, if_pos (by decide)]
  obtain ⟨a', er, r1, r2⟩ := hi.queue hF hs hb
  rw [r1, Option.bind_some]
  unfold wirelesslaw33_wire_step_j2 wirelesslaw33_wire_step_j3
  by_cases h0 : er = 0
  · rw [if_pos h0] at r2
    rw [if_pos (by simpa using h0), app_small (by simp; omega) (by omega), Option.bind_some]
    exact ⟨_, rfl, r2, ok, by show (w.queued ++ [x.SDU]).length ≤ n + 1; simp; omega, cl, by show (w.queued ++ [x.SDU]).flatten.length ≤ _; simp only [List.flatten_append, List.length_append, List.flatten_singleton]; omega⟩
  · rw [if_neg h0] at r2
    rw [if_neg (by simpa using h0)]
    exact ⟨_, rfl, r2, ok, by show w.queued.length ≤ n + 1; omega, cl, by show w.queued.flatten.length ≤ _; omega⟩
theorem step_ok (hF : 100000 < F) {n k m : Nat} {w : T_wirelesslaw33_wire} {x : T_wirelesslaw33_Step} (h : WI mt mp n k m w) (hn : n ≤ 1000) (hkk : k ≤ 1000) (hx : StepOk x) : ∃ w', wirelesslaw33_wire_step F w x = some w' ∧ WI mt mp (n + 1) (k + 1) (m + x.SDU.length) w' := by
  by_cases h0 : (remp x.Kind 5 == 0) = true
  · obtain ⟨w', r1, r2⟩ := step0 (F := F) (by omega) h hn hx h0
    exact ⟨w', r1, r2.mono (by omega) (by omega) (by omega)⟩
  by_cases h1 : (remp x.Kind 5 == 1) = true
  · obtain ⟨w', l, r1, r2, _⟩ := step1 hF h h1
    exact ⟨w', r1, r2.mono (by omega) (by omega) (by omega)⟩
  by_cases h2 : (remp x.Kind 5 == 2) = true
  · obtain ⟨w', r1, r2, _⟩ := step2 (F := F) (by omega) h hx hn h2
    exact ⟨w', r1, r2.mono (by omega) (by omega) (by omega)⟩
  by_cases h3 : (remp x.Kind 5 == 3) = true
  · obtain ⟨w', r1, r2, _⟩ := step3 (F := F) (by omega) h hx hkk h3
    exact ⟨w', r1, r2.mono (by omega) (by omega) (by omega)⟩
  by_cases h4 : (remp x.Kind 5 == 4) = true
  · obtain ⟨w', r1, r2, _⟩ := step4 (F := F) (by omega) h hx h4
    exact ⟨w', r1, r2.mono (by omega) (by omega) (by omega)⟩
  refine ⟨w, ?_, h.mono (by omega) (by omega) (by omega)⟩
  unfold wirelesslaw33_wire_step
  rw [if_neg h0, if_neg h1, if_neg h2, if_neg h3, if_neg h4]
  rfl
theorem take_sum_le : ∀ (l : List Int) (i : Nat), (∀ c ∈ l, 1 ≤ c) → 0 ≤ (l.take i).sum ∧ (l.take i).sum ≤ l.sum
  | [], i, _ => by simp
  | c :: l, 0, h => by
    have := sum_nonneg (c :: l) h
    simpa using this
  | c :: l, i + 1, h => by
    have h1 := take_sum_le l i fun c hc => h c (by simp [hc])
    have h2 := h c (by simp)
    rw [List.take_succ_cons, List.sum_cons, List.sum_cons]
    omega
theorem sound_ok {n k m : Nat} (hF : 5000 < F) {w : T_wirelesslaw33_wire} (h : WI mt mp n k m w) (hn : n ≤ 1000) (hk : k ≤ 1000) : wirelesslaw33_wire_sound F w = some true := by
  have hfr := h.frl
  obtain ⟨hi, ok, ql, cl, qb⟩ := h
  have hrx := hi.okb.rx
  have htx := hi.oka.tx
  have hsum := hi.sum
  have hgq := hi.gotq
  have hlf := len_nat w.frames
  unfold wirelesslaw33_wire_sound wirelesslaw33_wire_sound_j1
  have := iter_count (body := fun s : Int × Int => wirelesslaw33_wire_sound_l1 F w s.1 s.2) (fun i => (w.a.TxCredits + w.frames.length + (w.credits.take i).sum, (i : Int))) w.credits.length (w.a.TxCredits + w.frames.length + w.credits.sum) (fun i hi' => by
    have hx : w.credits[i]? = some w.credits[i] := List.getElem?_eq_getElem hi'
    have hs1 := take_sum_le w.credits (i + 1) hi.cpos
    have e : (w.credits.take (i + 1)).sum = (w.credits.take i).sum + w.credits[i] := by rw [← take_succ' hx, List.sum_append, List.sum_singleton]
    show wirelesslaw33_wire_sound_l1 F w _ _ = _
    unfold wirelesslaw33_wire_sound_l1
    rw [if_pos (by rw [decide_eq_true_eq, len_nat]; omega), idx_nat, hx, Option.bind_some, w64_nat i (by omega), w64_small (x := w.a.TxCredits + w.frames.length + (w.credits.take i).sum + w.credits[i]) (by omega) (by omega)]
    rw [e, Int.add_assoc]) (by
    show wirelesslaw33_wire_sound_l1 F w _ _ = _
    unfold wirelesslaw33_wire_sound_l1
    rw [if_neg (by rw [decide_eq_true_eq, len_nat]; omega), List.take_length]) F 0 (by omega) (by omega)
  simp only [List.take_zero, List.sum_nil, Int.add_zero] at this
  rw [hlf, w64_small (x := w.a.TxCredits + w.frames.length) (by omega) (by omega)]
  rw [show ((0 : Nat) : Int) = 0 from rfl] at this
  rw [this, Option.bind_some]
  unfold wirelesslaw33_wire_sound_j2 wirelesslaw33_wire_sound_j3 wirelesslaw33_wire_sound_j4
  have hlg := len_nat w.got
  have hlq := len_nat w.queued
  rw [if_neg (by rw [ok, hsum]; simp; omega)]
  have hsub := sub_nat w.queued 0 w.got.length (by omega) hgq.1
  rw [List.drop_zero, hgq.2] at hsub
  rw [show ((0 : Nat) : Int) = 0 from rfl] at hsub
  rw [hlg, hsub, Option.bind_some, lists_ok F w.got (by omega) (by omega)]
  rfl
/-- What is still to be received. -/
def rem (mp : Int) (w : T_wirelesslaw33_wire) : Nat := w.frames.length + (togo mp.toNat w.a.Sent.toNat w.a.Out).length
theorem rem_le {n k m : Nat} {w : T_wirelesslaw33_wire} (h : WI mt mp n k m w) : rem mp w * 23 ≤ m + 24 * n := by
  have hm := h.inv.mps
  obtain ⟨mid, p, q1, q2, _⟩ := h.inv.str
  have h1 := togo_len (m := mp.toNat) (p := p) (by omega) mid
  have h2 := congrArg List.length q2
  rw [List.length_append] at h2
  have h3 := h.ql
  have h4 := h.qb
  rw [q1] at h3 h4
  rw [List.length_append] at h3
  rw [List.flatten_append, List.length_append] at h4
  unfold rem
  omega
/-- All frames arrive. -/
theorem drain (hF : 5000 < F) {n k m : Nat} (hn : n ≤ 1000) : ∀ (q fuel : Nat) (w : T_wirelesslaw33_wire), WI mt mp n k m w → w.frames.length ≤ q * 255 → q < fuel →
    ∃ w', iter (fun s => wirelesslaw33_SduCredits_l2 F s) fuel w = some w' ∧ WI mt mp n k m w' ∧ w'.a = w.a ∧ w'.credits = w.credits ∧ w'.queued = w.queued ∧ w'.frames = []
  | _, 0, _, _, _, h => by omega
  | q, fuel + 1, w, h, hq, hf => by
    by_cases h0 : w.frames = []
    · refine ⟨w, iter_stop ?_, h, rfl, rfl, rfl, h0⟩
      unfold wirelesslaw33_SduCredits_l2
      rw [if_neg (by rw [h0]; simp [len])]
    · have hl : 0 < w.frames.length := List.length_pos_iff.2 h0
      cases q with
      | zero => omega
      | succ q =>
        obtain ⟨w1, r1, r2, r3, r4, r5, r6⟩ := step2 hF (x := T_wirelesslaw33_Step.mk 2 [] 255) h ⟨by simp, by simp, by simp, by simp⟩ hn (by decide)
        have e : (T_wirelesslaw33_Step.mk 2 [] 255).N.toNat = 255 := rfl
        rw [e] at r6
        obtain ⟨w2, s1, s2, s3, s4, s5, s6⟩ := drain hF hn q fuel w1 r2 (by rw [r6]; omega) (by omega)
        refine ⟨w2, ?_, s2, s3.trans r3, s4.trans r4, s5.trans r5, s6⟩
        rw [iter_step (s' := w1) ?_]
        · exact s1
        unfold wirelesslaw33_SduCredits_l2
        rw [if_pos (by rw [h.ok, len_nat]; simp; omega), r1]
        rfl
/-- A round of the end. -/
theorem round (hF : 100000 < F) {n k m : Nat} {w : T_wirelesslaw33_wire} (h : WI mt mp n k m w) (hn : n ≤ 60) (hk : k ≤ 60) (hm : m ≤ 16384) :
    ∃ w1 w2 w3 w4, wirelesslaw33_wire_step F w (T_wirelesslaw33_Step.mk 3 [] 60) = some w1 ∧ wirelesslaw33_wire_step F w1 (T_wirelesslaw33_Step.mk 4 [] 255) = some w2 ∧ wirelesslaw33_wire_step F w2 (T_wirelesslaw33_Step.mk 1 [] 0) = some w3 ∧ iter (fun s => wirelesslaw33_SduCredits_l2 F s) F w3 = some w4 ∧
      WI mt mp n k m w4 ∧ (w4.got = w4.queued ∨ rem mp w4 + 60 ≤ rem mp w) := by
  have hr := rem_le h
  obtain ⟨w1, a1, a2, a3, a4, a5, a6, a7⟩ := step3 (F := F) (by omega) (x := T_wirelesslaw33_Step.mk 3 [] 60) h ⟨by simp, by simp, by simp, by simp⟩ (by omega) (by decide)
  obtain ⟨w2, b1, b2, b3, b4, b5, b6, b7, b8, b9⟩ := step4 (F := F) (by omega) (x := T_wirelesslaw33_Step.mk 4 [] 255) a2 ⟨by simp, by simp, by simp, by simp⟩ (by decide)
  obtain ⟨w3, l, c1, c2, c3, c4, c5, c6, c7, c8, c9, c10⟩ := step1 hF (x := T_wirelesslaw33_Step.mk 1 [] 0) b2 (by decide)
  have hfr := c2.frl
  obtain ⟨w4, d1, d2, d3, d4, d5, d6⟩ := drain (F := F) (by omega) (by omega) 300 F w3 c2 (by omega) (by omega)
  refine ⟨w1, w2, w3, w4, a1, b1, c1, d1, ?_, ?_⟩
  · have e : (T_wirelesslaw33_Step.mk 4 [] 255).N.toNat = 255 := rfl
    rw [e] at b7
    have := a2.cl
    refine ⟨d2.inv, d2.ok, d2.ql, ?_, d2.qb⟩
    rw [d4, c5]
    omega
  · have e : (T_wirelesslaw33_Step.mk 4 [] 255).N.toNat = 255 := rfl
    rw [e] at b7
    have hcl := a2.cl
    have hc2 : w2.credits = [] := List.eq_nil_of_length_eq_zero (by omega)
    rcases c8 with c8 | c8
    · left
      have hi := d2.inv
      rw [d6] at hi
      exact hi.done (by rw [d3]; exact c8)
    · right
      have hl := congrArg List.length c10
      rw [List.length_append, b8, b9, a3] at hl
      have s0 := h.inv.sum
      have s2 := b2.inv.sum
      rw [hc2, b3, b4, a4] at s2
      rw [List.sum_nil] at s2
      have hpos := sum_nonneg _ h.inv.cpos
      have htx := h.inv.oka.tx
      have hrem : rem mp w4 = (togo mp.toNat w3.a.Sent.toNat w3.a.Out).length := by unfold rem; rw [d6, d3]; simp
      have hrem0 : rem mp w = w.frames.length + (togo mp.toNat w.a.Sent.toNat w.a.Out).length := rfl
      rcases a7 with a7 | ⟨a7, a8, a9⟩
      · have s1 := a2.inv.sum
        rw [a3, a4, a7, List.sum_append, List.sum_singleton] at s1
        have e60 : (T_wirelesslaw33_Step.mk 3 [] 60).N = 60 := rfl
        rw [e60] at s1
        omega
      · have e60 : (T_wirelesslaw33_Step.mk 3 [] 60).N = 60 := rfl
        rw [e60] at a7
        rw [a9] at s2
        omega
end
end V
end Go.Proofs.Ytfdiabglpgkbeaa
