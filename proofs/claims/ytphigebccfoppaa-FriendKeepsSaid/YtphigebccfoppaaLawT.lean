/-
  One tick of a friendship: what it comes to.
-/
import Derived.Test.YtphigebccfoppaaLawB
namespace Go.Proofs.Ytphigebccfoppaa
namespace V
def seqs (l : List T_api_Queued) : List Int := l.map fun q => q.PDU.Seq
/-- What holds of a pair at tick i, whatever was lost. -/
structure S (x : T_wirelesslaw51_pair) (i : Nat) : Prop where
  ok : FOk x.f
  q16 : x.f.Queue.length ≤ 16
  low : x.f.Low = 5
  fb : x.f.Bit = 0 ∨ x.f.Bit = 1
  lb : x.l.Bit = 0 ∨ x.l.Bit = 1
  ph : x.l.Phase = 2 ∨ x.l.Phase = 3
  fr : x.l.Friend = 9
  sb : x.l.Subs = []
  td : x.l.Told = 0
  t0 : 0 ≤ x.l.Tries
  t1 : x.l.Tries ≤ i
  d0 : 0 ≤ x.l.Due
  d1 : x.l.Due ≤ 10 * (i : Int) + 40
  l0 : 0 ≤ x.l.Last
  l1 : x.l.Last ≤ 10 * (i : Int)
  p0 : 0 ≤ x.f.Polled
  p1 : x.f.Polled ≤ 10 * (i : Int)
  gl : x.got.length ≤ i
  dr : x.f.Dropped = 0 ∨ x.f.Dropped = 1
  en : x.ended = false
def la (l : T_api_LowPower) (now : Int) : T_api_LowPower := { l with Due := now + 10, Tries := l.Tries + 1 }
def lz (l : T_api_LowPower) (more : Bool) (now : Int) : T_api_LowPower := { l with Phase := 3, Bit := 1 - l.Bit, Due := if more = true then now else now + 50, Tries := 0, More := more, Last := now }
theorem tick_ok (F : Nat) {l : T_api_LowPower} (now : Int) (hn : 0 ≤ now) (hn2 : now ≤ 100000) (ph : l.Phase = 2 ∨ l.Phase = 3) (sb : l.Subs = []) (td : l.Told = 0) (l0 : 0 ≤ l.Last) (l1 : l.Last ≤ 100000) (t0 : 0 ≤ l.Tries) (t1 : l.Tries ≤ 100000) (lb : l.Bit = 0 ∨ l.Bit = 1) :
    (((l.Phase = 3 ∧ l.Last + 200 ≤ now) ∨ (l.Phase = 2 ∧ l.Due ≤ now ∧ 6 ≤ l.Tries)) ∧ ∃ l' m, friend_Tick F l now = some (l', [m]) ∧ m.Opcode = 3) ∨
    (now < l.Due ∧ friend_Tick F l now = some (l, [])) ∨
    (l.Due ≤ now ∧ ∃ m, friend_Tick F l now = some (la l now, [m]) ∧ m.Opcode = 1 ∧ m.Bytes = [l.Bit]) := by
  unfold friend_Tick
  rw [sb, clone_ok F (by simp), Option.bind_some]
  by_cases hq : (((l.Phase == 3) && (decide (now ≥ (w64 (l.Last + 200))))) || (((l.Phase == 2) && (decide (l.Due ≤ now))) && (decide (l.Tries ≥ 6)))) = true
  · refine .inl ⟨?_, ?_⟩
    · rw [w64_id (by omega) (by omega)] at hq
      simp only [Bool.or_eq_true, Bool.and_eq_true, beq_iff_eq, decide_eq_true_eq] at hq
      rcases hq with ⟨h1, h2⟩ | ⟨⟨h1, h2⟩, h3⟩
      · exact .inl ⟨h1, by omega⟩
      · exact .inr ⟨h1, h2, h3⟩
    · rw [if_pos hq]
      unfold friend_Seek
      rw [clone_ok F (by simp), Option.bind_some]
      unfold friend_Seek_j1
      rw [Option.bind_some]
      unfold friend_Tick_j1
      rw [if_neg (by
        simp only [Bool.or_eq_true, beq_iff_eq, decide_eq_true_eq]
        omega), if_pos (by rfl)]
      unfold friend_two
      rw [Option.bind_some]
      exact ⟨_, _, rfl, rfl⟩
  · rw [if_neg hq]
    have hsl : ({ l with Subs := [] } : T_api_LowPower) = l := by rw [← sb]
    have hl0 : T_api_LowPower.mk l.Phase l.Friend l.Bit l.Counter l.Due l.Tries [] l.Told l.More l.Last = l := hsl
    rw [hl0]
    unfold friend_Tick_j1
    have hp0 : (l.Phase == 0) = false := beq_false_of_ne (by omega)
    by_cases hd : l.Due > now
    · rw [if_pos (by rw [hp0, dt hd]; rfl)]
      exact .inr (.inl ⟨by omega, rfl⟩)
    · rw [if_neg (by rw [hp0, decide_eq_false hd]; decide), if_neg (by
        have : (l.Phase == 1) = false := beq_false_of_ne (by omega)
        rw [this]
        decide)]
      have hk : (if (l.Phase == 3) = true then (friend_known F l).bind fun x_506 => some (!x_506) else some false) = some false := by
        by_cases h3 : (l.Phase == 3) = true
        · rw [if_pos h3]
          unfold friend_known
          rw [td, sb, Option.bind_some]
          rfl
        · rw [if_neg h3]
      rw [hk, Option.bind_some, if_neg (by decide)]
      unfold friend_Tick_j2 friend_Tick_j3
      refine .inr (.inr ⟨by omega, T_api_Lower.mk true false false 0 0 0 1 0 false [wu8 l.Bit], ?_, rfl, ?_⟩)
      · rw [w64_id (x := now + 10) (by omega) (by omega), w64_id (x := l.Tries + 1) (by omega) (by omega)]
        rfl
      · show [wu8 l.Bit] = [l.Bit]
        rw [wu8_id (by omega) (by omega)]
theorem got_ok (F : Nat) {l : T_api_LowPower} (more : Bool) (now : Int) (hn : 0 ≤ now) (hn2 : now ≤ 100000) (ph : l.Phase = 2 ∨ l.Phase = 3) (fr : l.Friend = 9) (sb : l.Subs = []) (td : l.Told = 0) (t0 : 1 ≤ l.Tries) (lb : l.Bit = 0 ∨ l.Bit = 1) : friend_Got F l 9 more now = some (lz l more now, true) := by
  unfold friend_Got
  have hc : slices_Clone_uint16_uint16 F l.Subs = some l.Subs := clone_ok F (by rw [sb]; simp)
  rw [hc, Option.bind_some, if_neg (by
    rw [fr, td, sb, dt (show l.Tries ≥ 1 by omega)]
    rcases ph with h | h
    · rw [h]; decide
    · rw [h]; decide)]
  unfold friend_known
  have e1 : w64 (1 - l.Bit) = 1 - l.Bit := w64_id (by omega) (by omega)
  have e2 : w64 (now + 50) = now + 50 := w64_id (by omega) (by omega)
  have hj : ∀ d : Int, friend_Got_j1 F l more now l.Subs d = some ({ l with Phase := 3, Bit := 1 - l.Bit, Due := d, Tries := 0, More := more, Last := now }, true) := fun d => by
    unfold friend_Got_j1
    rw [e1]
  have hk : decide (l.Told ≥ len l.Subs) = true := by rw [td, sb]; rfl
  cases more with
  | true =>
    rw [if_neg (by decide), Option.bind_some, if_neg (by decide), hj]
    rfl
  | false =>
    rw [if_pos (by decide), Option.bind_some, Option.bind_some]
    rw [if_pos (by exact hk), hj, e2]
    rfl
/-- The friend's side behind a poll. -/
def fz (f : T_api_Friend) (bit now : Int) : T_api_Friend := { f with Queue := pollQ f bit, Bit := bit, Sent := decide (len (pollQ f bit) > 0), Polled := now }
def ans (f : T_api_Friend) (bit : Int) : List Int := seqs ((pollQ f bit).take 1)
theorem j1_ok (F : Nat) {x c : T_wirelesslaw51_pair} (e : T_wirelesslaw51_Event) {i : Nat} (hi : i ≤ 1000) (h : S c i) (hl : x.l = c.l) (hg : x.got = c.got) (he : x.ended = false) (hF : 2000 < F) :
    ∃ x', wirelesslaw51_pair_tick_j1 F x e (10 * (i : Int)) c = some x' ∧
      ((x'.ended = true ∧ x'.got = c.got ∧ x'.kept = c.kept ∧ x'.f = c.f ∧ ((c.l.Phase = 3 ∧ c.l.Last + 200 ≤ 10 * (i : Int)) ∨ (c.l.Phase = 2 ∧ c.l.Due ≤ 10 * (i : Int) ∧ 6 ≤ c.l.Tries))) ∨
       (10 * (i : Int) < c.l.Due ∧ x' = c) ∨
       (c.l.Due ≤ 10 * (i : Int) ∧ e.PollLost = true ∧ x' = { c with l := la c.l (10 * (i : Int)) }) ∨
       (c.l.Due ≤ 10 * (i : Int) ∧ e.PollLost = false ∧ e.AnswerLost = true ∧ x' = { c with l := la c.l (10 * (i : Int)), f := fz c.f c.l.Bit (10 * (i : Int)) }) ∨
       (c.l.Due ≤ 10 * (i : Int) ∧ e.PollLost = false ∧ e.AnswerLost = false ∧ x' = { c with l := lz c.l (decide (len (pollQ c.f c.l.Bit) > 1)) (10 * (i : Int)), f := fz c.f c.l.Bit (10 * (i : Int)), got := c.got ++ ans c.f c.l.Bit })) := by
  have hen := h.en
  have hgl := h.gl
  have hlb := h.lb
  unfold wirelesslaw51_pair_tick_j1
  rw [hl, hg, he]
  have l1 := h.l1
  have t1 := h.t1
  rcases tick_ok F (l := c.l) (10 * (i : Int)) (by omega) (by omega) h.ph h.sb h.td h.l0 (by omega) h.t0 (by omega) h.lb with ⟨hc, l', m, ht, hm⟩ | ⟨hd, ht⟩ | ⟨hd, m, ht, hm, hb⟩
  · rw [ht, Option.bind_some, if_neg (by simp [len]), show idx [m] 0 = some m from rfl, Option.bind_some, hm, if_pos (by decide), Option.bind_some, if_pos rfl]
    exact ⟨_, rfl, .inl ⟨rfl, rfl, rfl, rfl, hc⟩⟩
  · rw [ht, Option.bind_some, if_pos (by simp [len])]
    refine ⟨_, rfl, .inr (.inl ⟨hd, ?_⟩)⟩
    rw [← hen]
  · rw [ht, Option.bind_some, if_neg (by simp [len]), show idx [m] 0 = some m from rfl, Option.bind_some, hm, if_neg (by decide), Option.bind_some, Option.bind_some, hb, if_neg (by simp [len])]
    by_cases hpl : e.PollLost = true
    · rw [if_pos hpl]
      refine ⟨_, rfl, .inr (.inr (.inl ⟨hd, hpl, ?_⟩))⟩
      rw [← hen]
    · have hpf : e.PollLost = false := by simpa using hpl
      rw [if_neg hpl, Option.bind_some, hb, show idx [c.l.Bit] 0 = some c.l.Bit from rfl, Option.bind_some, w64_id (x := c.l.Bit) (by omega) (by omega), poll_ok F h.ok _ _ hF, Option.bind_some]
      have hps : pollS c.f c.l.Bit (10 * (i : Int)) = (fz c.f c.l.Bit (10 * (i : Int)), (pollQ c.f c.l.Bit).take 1) := by
        unfold pollS
        rw [if_neg (by
          rw [h.low]
          rcases h.lb with q | q
          · rw [q]; decide
          · rw [q]; decide)]
        rfl
      rw [hps]
      simp only
      unfold wirelesslaw51_pair_tick_j2
      by_cases hal : e.AnswerLost = true
      · rw [if_pos hal]
        refine ⟨_, rfl, .inr (.inr (.inr (.inl ⟨hd, hpf, hal, ?_⟩)))⟩
        rw [hg, he, ← hen]
      · have haf : e.AnswerLost = false := by simpa using hal
        rw [if_neg hal, got_ok F (l := la c.l (10 * (i : Int))) _ _ (by omega) (by omega) h.ph h.fr h.sb h.td (by show 1 ≤ c.l.Tries + 1; have := h.t0; omega) h.lb, Option.bind_some]
        simp only
        refine ⟨{ c with l := lz c.l (decide (len (pollQ c.f c.l.Bit) > 1)) (10 * (i : Int)), f := fz c.f c.l.Bit (10 * (i : Int)), got := c.got ++ ans c.f c.l.Bit }, ?_, .inr (.inr (.inr (.inr ⟨hd, hpf, haf, rfl⟩)))⟩
        unfold ans
        cases hQ : pollQ c.f c.l.Bit with
        | nil =>
          rw [if_neg (by simp [len])]
          unfold wirelesslaw51_pair_tick_j3
          rw [hg, he, ← hen]
          unfold fz
          rw [hQ]
          simp [seqs]
          rfl
        | cons q r =>
          rw [if_pos (by simp [len]), show idx (List.take 1 (q :: r)) 0 = some q from rfl, Option.bind_some, hg, app_small (by simp; omega) (by omega), Option.bind_some]
          unfold wirelesslaw51_pair_tick_j3
          rw [he, ← hen]
          unfold fz
          rw [hQ]
          rfl
end V
end Go.Proofs.Ytphigebccfoppaa
