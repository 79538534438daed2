/-
  FriendKeeps: what was kept arrives, each once and in order.
-/
import Derived.Test.YtphigebccfoppaaLawT
namespace Go.Proofs.Ytphigebccfoppaa
namespace V
/-- What was kept is what arrived and what is left behind the next poll. -/
structure C (x : T_wirelesslaw51_pair) (b : Int) : Prop where
  k : x.kept = x.got ++ seqs (pollQ x.f x.l.Bit)
  sq : x.f.Sent = true → x.f.Queue ≠ []
  qs : ∀ q ∈ x.f.Queue, q.PDU.Seq < b
theorem seqs_append (a b : List T_api_Queued) : seqs (a ++ b) = seqs a ++ seqs b := by simp [seqs]
theorem pollQ_sub (f : T_api_Friend) (bit : Int) : ∀ q ∈ pollQ f bit, q ∈ f.Queue := by
  intro q hq
  unfold pollQ at hq
  split at hq
  · exact List.mem_of_mem_drop hq
  · exact hq
theorem pollQ_len (f : T_api_Friend) (bit : Int) : (pollQ f bit).length ≤ f.Queue.length := by
  unfold pollQ
  split
  · rw [List.length_drop]; omega
  · omega
theorem pollQ_same {f : T_api_Friend} {bit : Int} (h : bit = f.Bit) : pollQ f bit = f.Queue := by
  unfold pollQ
  rw [if_neg (by rw [h]; simp)]
theorem drop1 {α : Type} {l : List α} (h : l.length = 0) : l.drop 1 = l := by
  rw [List.length_eq_zero_iff.1 h]; rfl
theorem pollQ_fz (f : T_api_Friend) (bit now bit' : Int) : pollQ (fz f bit now) bit' = if bit' = bit then pollQ f bit else (pollQ f bit).drop 1 := by
  by_cases hb : bit' = bit
  · rw [if_pos hb, pollQ_same (by rw [hb]; rfl)]
    rfl
  · rw [if_neg hb]
    show (if ((decide (len (pollQ f bit) > 0) && (bit' != bit)) && decide (len (pollQ f bit) > 0)) = true then (pollQ f bit).drop 1 else pollQ f bit) = (pollQ f bit).drop 1
    by_cases hl : len (pollQ f bit) > 0
    · rw [if_pos (by rw [decide_eq_true hl]; simp [hb])]
    · rw [if_neg (by rw [decide_eq_false hl]; simp), drop1 (by rw [len_nat] at hl; omega)]
theorem fz_ok {f : T_api_Friend} (h : FOk f) (bit now : Int) : FOk (fz f bit now) :=
  ⟨fun q hq => h.q q (pollQ_sub f bit q hq), by have := pollQ_len f bit; have := h.n; show (pollQ f bit).length ≤ 1000; omega, h.s⟩
/-- What a round at tick i leaves behind. -/
theorem S_fz {c : T_wirelesslaw51_pair} {i : Nat} (h : S c i) (l' : T_api_LowPower) (g : List Int) (hg : g.length ≤ i + 1)
    (lb : l'.Bit = 0 ∨ l'.Bit = 1) (ph : l'.Phase = 2 ∨ l'.Phase = 3) (fr : l'.Friend = 9) (sb : l'.Subs = []) (td : l'.Told = 0) (t0 : 0 ≤ l'.Tries) (t1 : l'.Tries ≤ (i + 1 : Nat)) (d0 : 0 ≤ l'.Due) (d1 : l'.Due ≤ 10 * ((i + 1 : Nat) : Int) + 40) (l0 : 0 ≤ l'.Last) (l1 : l'.Last ≤ 10 * ((i + 1 : Nat) : Int)) :
    S { c with l := l', f := fz c.f c.l.Bit (10 * (i : Int)), got := g } (i + 1) :=
  { ok := fz_ok h.ok _ _, q16 := Nat.le_trans (pollQ_len _ _) h.q16, low := h.low, fb := h.lb, lb, ph, fr, sb, td, t0, t1, d0, d1, l0, l1
    p0 := by show 0 ≤ 10 * (i : Int); omega
    p1 := by show 10 * (i : Int) ≤ 10 * ((i + 1 : Nat) : Int); omega
    gl := hg, dr := h.dr, en := h.en }
theorem S_la {c : T_wirelesslaw51_pair} {i : Nat} (h : S c i) : S { c with l := la c.l (10 * (i : Int)) } (i + 1) := by
  have := h.t0; have := h.t1; have := h.l0; have := h.l1; have := h.p0; have := h.p1; have := h.gl
  exact { ok := h.ok, q16 := h.q16, low := h.low, fb := h.fb, lb := h.lb, ph := h.ph, fr := h.fr, sb := h.sb, td := h.td
          t0 := by show 0 ≤ c.l.Tries + 1; omega
          t1 := by show c.l.Tries + 1 ≤ ((i + 1 : Nat) : Int); omega
          d0 := by show 0 ≤ 10 * (i : Int) + 10; omega
          d1 := by show 10 * (i : Int) + 10 ≤ 10 * ((i + 1 : Nat) : Int) + 40; omega
          l0 := h.l0, l1 := by show c.l.Last ≤ 10 * ((i + 1 : Nat) : Int); omega
          p0 := h.p0, p1 := by show c.f.Polled ≤ 10 * ((i + 1 : Nat) : Int); omega
          gl := by show c.got.length ≤ i + 1; omega
          dr := h.dr, en := h.en }
theorem S_up {c : T_wirelesslaw51_pair} {i : Nat} (h : S c i) : S c (i + 1) := by
  have := h.t1; have := h.d1; have := h.l1; have := h.p1; have := h.gl
  exact { h with
          t1 := by omega
          d1 := by omega
          l1 := by omega
          p1 := by omega
          gl := by omega }
theorem C_fz {c : T_wirelesslaw51_pair} {b : Int} (h : C c b) (hlb : c.l.Bit = 0 ∨ c.l.Bit = 1) (now : Int) : C { c with l := la c.l now, f := fz c.f c.l.Bit now } b ∧ ∀ more, C { c with l := lz c.l more now, f := fz c.f c.l.Bit now, got := c.got ++ ans c.f c.l.Bit } b := by
  have hs : decide (len (pollQ c.f c.l.Bit) > 0) = true → pollQ c.f c.l.Bit ≠ [] := by
    intro h he
    rw [he] at h
    simp [len] at h
  refine ⟨⟨?_, hs, fun q hq => h.qs q (pollQ_sub _ _ q hq)⟩, fun more => ⟨?_, hs, fun q hq => h.qs q (pollQ_sub _ _ q hq)⟩⟩
  · show c.kept = c.got ++ seqs (pollQ (fz c.f c.l.Bit now) c.l.Bit)
    rw [pollQ_fz, if_pos rfl]
    exact h.k
  · show c.kept = c.got ++ ans c.f c.l.Bit ++ seqs (pollQ (fz c.f c.l.Bit now) (1 - c.l.Bit))
    rw [pollQ_fz, if_neg (by omega), h.k, List.append_assoc]
    unfold ans
    rw [← seqs_append, List.take_append_drop]
theorem over_ok (F : Nat) {f : T_api_Friend} (now : Int) (h : f.Low = 5) (p0 : 0 ≤ f.Polled) (p1 : f.Polled ≤ 100000) : friend_Over F f now = some (decide (now ≥ f.Polled + 200)) := by
  unfold friend_Over
  rw [if_pos (by rw [h]; decide)]
  unfold friend_over
  rw [Option.bind_some, Option.bind_some, w64_id (by omega) (by omega)]
def mq (i : Nat) : T_api_Queued := T_api_Queued.mk (T_api_NetPDU.mk 0 0 false 0 (10 * (i : Int)) 7 0 []) (T_api_Lower.mk false false false 0 0 0 0 0 false [])
def kc (x : T_wirelesslaw51_pair) (i : Nat) : T_wirelesslaw51_pair := { x with f := keepS x.f (mq i), kept := x.kept ++ [10 * (i : Int)] }
theorem mem_del {α : Type} {l : List α} {n : Nat} {x : α} (h : x ∈ l.take n ++ l.drop (n + 1)) : x ∈ l := by
  rcases List.mem_append.1 h with h | h
  · exact List.mem_of_mem_take h
  · exact List.mem_of_mem_drop h
theorem kc_ok {x : T_wirelesslaw51_pair} {i : Nat} (h : S x i) (h2 : C x (10 * (i : Int))) (hd : x.f.Dropped = 0) : S (kc x i) i ∧ ((kc x i).f.Dropped = 1 ∨ ((kc x i).f.Dropped = 0 ∧ C (kc x i) (10 * (i : Int) + 10))) := by
  have ha : (x.f.Queue.any fun y => smn y (mq i)) = false := by
    rw [List.any_eq_false]
    intro y hy
    have := h2.qs y hy
    unfold smn mq
    simp only [Bool.and_eq_true, beq_iff_eq]
    omega
  have hq : QOk (mq i) := ⟨by simp [mq], by simp [mq]⟩
  have hmem : ∀ y ∈ x.f.Queue ++ [mq i], QOk y := by
    intro y hy
    rcases List.mem_append.1 hy with hy | hy
    · exact h.ok.q y hy
    · simp at hy
      rw [hy]
      exact hq
  have q16 := h.q16
  have hlen : (x.f.Queue ++ [mq i]).length = x.f.Queue.length + 1 := by rw [List.length_append, List.length_singleton]
  have base : ∀ (Q : List T_api_Queued) (d : Int), (∀ y ∈ Q, QOk y) → Q.length ≤ 16 → (d = 0 ∨ d = 1) → S { x with f := { x.f with Queue := Q, Dropped := d }, kept := x.kept ++ [10 * (i : Int)] } i := fun Q d hQ hl hd => { h with
    ok := ⟨hQ, by show Q.length ≤ 1000; omega, h.ok.s⟩
    q16 := hl
    dr := hd }
  unfold kc keepS
  rw [if_neg (by rw [h.low]; decide), if_neg (by rw [ha]; decide)]
  by_cases hl : x.f.Queue.length < 16
  · rw [if_pos hl]
    refine ⟨?_, .inr ⟨hd, ⟨?_, ?_, ?_⟩⟩⟩
    · have := base (x.f.Queue ++ [mq i]) x.f.Dropped hmem (by omega) (.inl hd)
      exact this
    · show x.kept ++ [10 * (i : Int)] = x.got ++ seqs (pollQ { x.f with Queue := x.f.Queue ++ [mq i] } x.l.Bit)
      rw [h2.k, List.append_assoc]
      congr 1
      have hsm : seqs [mq i] = [10 * (i : Int)] := rfl
      rw [← hsm, ← seqs_append]
      congr 1
      unfold pollQ
      by_cases hs : x.f.Sent = true
      · have hne := h2.sq hs
        have hpos : 0 < x.f.Queue.length := List.length_pos_iff.2 hne
        by_cases hb : (x.l.Bit != x.f.Bit) = true
        · rw [if_pos (by rw [hs, hb, dt (show len x.f.Queue > 0 by rw [len_nat]; omega)]; rfl)]
          rw [if_pos (by
            show (x.f.Sent && (x.l.Bit != x.f.Bit) && decide (len (x.f.Queue ++ [mq i]) > 0)) = true
            rw [hs, hb, dt (show len (x.f.Queue ++ [mq i]) > 0 by rw [len_nat]; omega)]; rfl)]
          show List.drop 1 x.f.Queue ++ [mq i] = List.drop 1 (x.f.Queue ++ [mq i])
          rw [List.drop_append_of_le_length (by omega)]
        · rw [if_neg (by simp [hb]), if_neg (by simp [hb])]
      · rw [if_neg (by simp [hs]), if_neg (by simp [hs])]
    · intro _
      show x.f.Queue ++ [mq i] ≠ []
      simp
    · intro y hy
      rcases List.mem_append.1 (show y ∈ x.f.Queue ++ [mq i] from hy) with hy | hy
      · have := h2.qs y hy
        omega
      · simp at hy
        rw [hy]
        show 10 * (i : Int) < 10 * (i : Int) + 10
        omega
  · rw [if_neg hl]
    have hdd : w64 (x.f.Dropped + 1) = 1 := by rw [hd]; rfl
    rw [hdd]
    refine ⟨base _ 1 ?_ ?_ (.inr rfl), .inl rfl⟩
    · intro y hy
      split at hy
      · exact hmem y (mem_del hy)
      · exact hmem y (List.mem_of_mem_drop hy)
    · split
      · rw [List.length_append, List.length_take, List.length_drop]; omega
      · rw [List.length_drop]; omega
theorem app4 (x : T_wirelesslaw51_pair) (n : Int) (h : x.kept.length ≤ 10000) : app 4 x.kept [n] = some (x.kept ++ [n]) := app_small (by simp; omega) (by omega)
/-- A round behind the keeping. -/
theorem next_ok (F : Nat) {x c : T_wirelesslaw51_pair} (e : T_wirelesslaw51_Event) {i : Nat} (hi : i ≤ 1000) (h : S c i) (hl : x.l = c.l) (hg : x.got = c.got) (he : x.ended = false) (hF : 2000 < F) :
    ∃ x', wirelesslaw51_pair_tick_j1 F x e (10 * (i : Int)) c = some x' ∧ (x'.ended = true ∨ (x'.f.Dropped = c.f.Dropped ∧ S x' (i + 1) ∧ (C c (10 * (i : Int) + 10) → C x' (10 * (i : Int) + 10)))) ∧ (x'.ended = true → x'.got = c.got ∧ x'.kept = c.kept) := by
  obtain ⟨x', h1, h2⟩ := j1_ok F e hi h hl hg he hF
  refine ⟨x', h1, ?_⟩
  have hen := h.en
  have := h.t0; have := h.t1; have hgl := h.gl; have hlb := h.lb
  have hp := pollQ_len c.f c.l.Bit
  rcases h2 with ⟨h2, a, b, _⟩ | ⟨_, rfl⟩ | ⟨_, _, rfl⟩ | ⟨_, _, _, rfl⟩ | ⟨_, _, _, rfl⟩
  · exact ⟨.inl h2, fun _ => ⟨a, b⟩⟩
  · exact ⟨.inr ⟨rfl, S_up h, fun q => q⟩, fun q => by rw [hen] at q; cases q⟩
  · exact ⟨.inr ⟨rfl, S_la h, fun q => ⟨q.k, q.sq, q.qs⟩⟩, fun q => by rw [show ({ c with l := la c.l (10 * (i : Int)) } : T_wirelesslaw51_pair).ended = false from hen] at q; cases q⟩
  · refine ⟨.inr ⟨rfl, ?_, fun q => (C_fz q hlb _).1⟩, fun q => by rw [show ({ c with l := la c.l (10 * (i : Int)), f := fz c.f c.l.Bit (10 * (i : Int)) } : T_wirelesslaw51_pair).ended = false from hen] at q; cases q⟩
    have hs := S_la h
    exact S_fz h (la c.l (10 * (i : Int))) c.got (by omega) hs.lb hs.ph hs.fr hs.sb hs.td hs.t0 hs.t1 hs.d0 hs.d1 hs.l0 hs.l1
  · refine ⟨.inr ⟨rfl, ?_, fun q => (C_fz q hlb _).2 _⟩, fun q => by rw [show ({ c with l := lz c.l (decide (len (pollQ c.f c.l.Bit) > 1)) (10 * (i : Int)), f := fz c.f c.l.Bit (10 * (i : Int)), got := c.got ++ ans c.f c.l.Bit } : T_wirelesslaw51_pair).ended = false from hen] at q; cases q⟩
    refine S_fz h _ _ ?_ ?_ (.inr rfl) h.fr h.sb h.td ?_ ?_ ?_ ?_ ?_ ?_
    · rw [List.length_append]
      have : (ans c.f c.l.Bit).length ≤ 1 := by unfold ans seqs; rw [List.length_map, List.length_take]; omega
      omega
    · show 1 - c.l.Bit = 0 ∨ 1 - c.l.Bit = 1
      omega
    · show (0 : Int) ≤ 0; omega
    · show (0 : Int) ≤ ((i + 1 : Nat) : Int); omega
    · show 0 ≤ (if decide (len (pollQ c.f c.l.Bit) > 1) = true then 10 * (i : Int) else 10 * (i : Int) + 50)
      split <;> omega
    · show (if decide (len (pollQ c.f c.l.Bit) > 1) = true then 10 * (i : Int) else 10 * (i : Int) + 50) ≤ 10 * ((i + 1 : Nat) : Int) + 40
      split <;> omega
    · show 0 ≤ 10 * (i : Int); omega
    · show 10 * (i : Int) ≤ 10 * ((i + 1 : Nat) : Int); omega
theorem C_up {x : T_wirelesslaw51_pair} {b : Int} (h : C x b) : C x (b + 10) := ⟨h.k, h.sq, fun q hq => by have := h.qs q hq; omega⟩
theorem C_len {x : T_wirelesslaw51_pair} {i : Nat} {b : Int} (h : S x i) (h2 : C x b) : x.kept.length ≤ i + 16 := by
  have := pollQ_len x.f x.l.Bit
  have := h.q16
  have := h.gl
  rw [h2.k, List.length_append]
  unfold seqs
  rw [List.length_map]
  omega
/-- A round. -/
theorem round_ok (F : Nat) {x : T_wirelesslaw51_pair} (e : T_wirelesslaw51_Event) {i : Nat} (hi : i ≤ 400) (h : S x i) (h2 : C x (10 * (i : Int))) (hd : x.f.Dropped = 0) (hF : 2000 < F) :
    ∃ x', wirelesslaw51_pair_tick F x e (10 * (i : Int)) = some x' ∧ (x'.ended = true ∨ x'.f.Dropped = 1 ∨ (x'.ended = false ∧ x'.f.Dropped = 0 ∧ S x' (i + 1) ∧ C x' (10 * ((i + 1 : Nat) : Int)))) := by
  have hp1 := h.p1
  unfold wirelesslaw51_pair_tick
  rw [over_ok F _ h.low h.p0 (by omega), Option.bind_some]
  by_cases ho : 10 * (i : Int) ≥ x.f.Polled + 200
  · rw [if_pos (dt ho)]
    exact ⟨_, rfl, .inl rfl⟩
  · rw [if_neg (df ho)]
    have hb : 10 * ((i + 1 : Nat) : Int) = 10 * (i : Int) + 10 := by omega
    rw [hb]
    by_cases hk : e.Keep = true
    · rw [if_pos hk]
      unfold wirelesslaw51_queued
      have hw : wu32 (10 * (i : Int)) = 10 * (i : Int) := wu32_id (by omega) (by omega)
      rw [hw, Option.bind_some]
      have hq : QOk (mq i) := ⟨by simp [mq], by simp [mq]⟩
      have := keep_ok F h.ok h.q16 hq hF
      unfold mq at this
      rw [this, Option.bind_some]
      unfold wirelesslaw51_pair_tick_j4
      have hkl := C_len h h2
      rw [hw]
      rw [app4 x _ (by omega), Option.bind_some]
      obtain ⟨hs, hc⟩ := kc_ok h h2 hd
      obtain ⟨x', h3, h4, _⟩ := next_ok F (x := x) (c := kc x i) e (by omega) hs rfl rfl h.en hF
      refine ⟨x', h3, ?_⟩
      rcases h4 with h4 | ⟨h4, h5, h6⟩
      · exact .inl h4
      · rcases hc with hc | ⟨hc, hc2⟩
        · exact .inr (.inl (by rw [h4, hc]))
        · exact .inr (.inr ⟨h5.en, by rw [h4, hc], h5, h6 hc2⟩)
    · rw [if_neg hk]
      obtain ⟨x', h3, h4, _⟩ := next_ok F (x := x) (c := x) e (by omega) h rfl rfl h.en hF
      refine ⟨x', h3, ?_⟩
      rcases h4 with h4 | ⟨h4, h5, h6⟩
      · exact .inl h4
      · exact .inr (.inr ⟨h5.en, by rw [h4, hd], h5, h6 (C_up h2)⟩)
theorem begins_ok (F : Nat) {x : T_wirelesslaw51_pair} {z : List Int} (h : x.kept = x.got ++ z) (hl : x.got.length ≤ 10000) (hF : 20000 < F) : wirelesslaw51_pair_begins F x = some true := by
  unfold wirelesslaw51_pair_begins
  rw [if_neg (df (by rw [len_nat, len_nat, h, List.length_append]; omega))]
  have := iter_count (body := fun s : Int => wirelesslaw51_pair_begins_l1 F x s) (fun i => (i : Int)) x.got.length (.inl ()) (by
    intro i hi
    have hx : x.got[i]? = some x.got[i] := List.getElem?_eq_getElem hi
    generalize x.got[i] = y at hx
    have hy : x.kept[i]? = some y := by rw [h, List.getElem?_append_left hi, hx]
    show wirelesslaw51_pair_begins_l1 F x (i : Int) = _
    unfold wirelesslaw51_pair_begins_l1
    rw [if_pos (dt (by rw [len_nat]; omega)), idx_nat, hx, Option.bind_some, idx_nat, hy, Option.bind_some]
    unfold wirelesslaw51_pair_begins_j2
    rw [if_neg (by simp), w64_nat i (by omega)]) (by
    show wirelesslaw51_pair_begins_l1 F x (x.got.length : Int) = _
    unfold wirelesslaw51_pair_begins_l1
    rw [if_neg (df (by rw [len_nat]; omega))]) F 0 (by omega) (by omega)
  rw [show (0 : Int) = ((0 : Nat) : Int) from rfl, this, Option.bind_some]
  rfl

/-- Behind an answer of the second part: everything polled arrives. -/
structure G (x : T_wirelesslaw51_pair) (i t : Nat) : Prop where
  ph : x.l.Phase = 3
  lp : x.f.Polled = x.l.Last
  n6 : 10 * (i : Int) ≤ x.l.Last + 60
  d5 : x.l.Due ≤ x.l.Last + 50
  bt : x.l.Bit ≠ x.f.Bit
  st : x.f.Sent = decide (len x.f.Queue > 0)
  u : 1 < x.f.Queue.length → x.l.Due ≤ 10 * (i : Int) ∧ x.f.Queue.length + t ≤ 22
theorem w_mul {i : Nat} (h : i ≤ 1000) : w64 (10 * (i : Int)) = 10 * (i : Int) := w64_id (by omega) (by omega)
theorem w_nat {i : Nat} (h : i ≤ 1000) (k : Nat) (hk : k ≤ 1000) : w64 ((i : Int) + (k : Int)) = ((i + k : Nat) : Int) := by rw [w64_id (by omega) (by omega)]; omega
theorem pollQ_G {x : T_wirelesslaw51_pair} {i t : Nat} (g : G x i t) : pollQ x.f x.l.Bit = x.f.Queue.drop 1 := by
  have hb : (x.l.Bit != x.f.Bit) = true := by simpa using g.bt
  unfold pollQ
  rw [g.st, hb]
  by_cases hl : len x.f.Queue > 0
  · rw [if_pos (by rw [dt hl]; rfl)]
  · rw [if_neg (by rw [decide_eq_false hl]; decide), drop1 (by rw [len_nat] at hl; omega)]
/-- A round of the second part, t rounds behind its begin. -/
theorem round2_ok (F : Nat) {x : T_wirelesslaw51_pair} {n t : Nat} (hn : n ≤ 150) (ht : t ≤ 120) (h : S x (n + t)) (h2 : C x (10 * ((n + t : Nat) : Int))) (hd : x.f.Dropped = 0) (hg : (t ≤ 4 ∧ x.l.Due ≤ 10 * (n : Int) + 40) ∨ G x (n + t) t) (hF : 20000 < F) :
    ∃ x', wirelesslaw51_pair_tick F x (T_wirelesslaw51_Event.mk false false false) (10 * ((n + t : Nat) : Int)) = some x' ∧
      ((x'.ended = true ∧ t ≤ 4 ∧ wirelesslaw51_pair_begins F x' = some true) ∨
       (x'.ended = false ∧ x'.f.Dropped = 0 ∧ S x' (n + t + 1) ∧ C x' (10 * ((n + t + 1 : Nat) : Int)) ∧ ((t + 1 ≤ 4 ∧ x'.l.Due ≤ 10 * (n : Int) + 40) ∨ G x' (n + t + 1) (t + 1)) ∧ wirelesslaw51_pair_begins F x' = some true)) := by
  have hp1 := h.p1
  have hgl := h.gl
  have hb0 : ∀ x' : T_wirelesslaw51_pair, x'.got = x.got → x'.kept = x.kept → wirelesslaw51_pair_begins F x' = some true := fun x' a b => begins_ok F (z := seqs (pollQ x.f x.l.Bit)) (by rw [a, b]; exact h2.k) (by rw [a]; omega) hF
  have hb1 : ∀ (x' : T_wirelesslaw51_pair) (b : Int), C x' b → S x' (n + t + 1) → wirelesslaw51_pair_begins F x' = some true := fun x' b c s => begins_ok F c.k (by have := s.gl; omega) hF
  unfold wirelesslaw51_pair_tick
  rw [over_ok F _ h.low h.p0 (by omega), Option.bind_some]
  by_cases ho : 10 * ((n + t : Nat) : Int) ≥ x.f.Polled + 200
  · rw [if_pos (dt ho)]
    refine ⟨_, rfl, .inl ⟨rfl, ?_, hb0 _ rfl rfl⟩⟩
    rcases hg with hg | hg
    · exact hg.1
    · have := hg.lp; have := hg.n6
      omega
  · rw [if_neg (df ho), if_neg (by decide)]
    have hb : 10 * ((n + t + 1 : Nat) : Int) = 10 * ((n + t : Nat) : Int) + 10 := by omega
    obtain ⟨x', h3, h4⟩ := j1_ok F (x := x) (c := x) (T_wirelesslaw51_Event.mk false false false) (i := n + t) (by omega) h rfl rfl h.en (by omega)
    obtain ⟨y, h5, h6, _⟩ := next_ok F (x := x) (c := x) (T_wirelesslaw51_Event.mk false false false) (i := n + t) (by omega) h rfl rfl h.en (by omega)
    have hy : y = x' := by rw [h3] at h5; injection h5 with h5; exact h5.symm
    subst hy
    refine ⟨y, h3, ?_⟩
    rcases h4 with ⟨e1, e2, e3, e4, e5⟩ | hrest
    · refine .inl ⟨e1, ?_, hb0 _ e2 e3⟩
      rcases hg with hg | hg
      · exact hg.1
      · have := hg.ph; have := hg.n6
        omega
    · have hne : y.ended = false := by
        rcases hrest with ⟨_, rfl⟩ | ⟨_, q, _⟩ | ⟨_, _, q, _⟩ | ⟨_, _, _, rfl⟩
        · exact h.en
        · cases q
        · cases q
        · exact h.en
      rcases h6 with h6 | ⟨h6, h7, h8⟩
      · rw [hne] at h6; cases h6
      have hc := h8 (C_up h2)
      rw [← hb] at hc
      refine .inr ⟨hne, by rw [h6, hd], h7, hc, ?_, hb1 _ _ hc h7⟩
      rcases hrest with ⟨q1, rfl⟩ | ⟨_, q, _⟩ | ⟨_, _, q, _⟩ | ⟨q1, _, _, rfl⟩
      · rcases hg with hg | hg
        · exact .inl ⟨by omega, hg.2⟩
        · refine .inr { hg with n6 := ?_, u := ?_ }
          · have := hg.d5
            omega
          · intro hu
            have := (hg.u hu).1
            omega
      · cases q
      · cases q
      · right
        have hlb := h.lb
        have hpl := pollQ_len x.f x.l.Bit
        have hq := h.q16
        refine ⟨rfl, rfl, ?_, ?_, ?_, rfl, ?_⟩
        · show 10 * ((n + t + 1 : Nat) : Int) ≤ 10 * ((n + t : Nat) : Int) + 60
          omega
        · show (if decide (len (pollQ x.f x.l.Bit) > 1) = true then 10 * ((n + t : Nat) : Int) else 10 * ((n + t : Nat) : Int) + 50) ≤ 10 * ((n + t : Nat) : Int) + 50
          split <;> omega
        · show 1 - x.l.Bit ≠ x.l.Bit
          omega
        · intro hu
          have hu : 1 < (pollQ x.f x.l.Bit).length := hu
          refine ⟨?_, ?_⟩
          · show (if decide (len (pollQ x.f x.l.Bit) > 1) = true then 10 * ((n + t : Nat) : Int) else 10 * ((n + t : Nat) : Int) + 50) ≤ 10 * ((n + t + 1 : Nat) : Int)
            rw [if_pos (dt (by rw [len_nat]; omega))]
            omega
          · show (pollQ x.f x.l.Bit).length + (t + 1) ≤ 22
            rcases hg with hg | hg
            · omega
            · have hpg := pollQ_G hg
              rw [hpg, List.length_drop] at hu ⊢
              have := (hg.u (by omega)).2
              omega
theorem second_ok {l : List T_wirelesslaw51_Event} (hn : l.length ≤ 150) {x : T_wirelesslaw51_pair} (h : S x l.length) (h2 : C x (10 * (l.length : Int))) (hd : x.f.Dropped = 0) : wirelesslaw51_FriendKeeps_j2 FF l x = some true := by
  unfold wirelesslaw51_FriendKeeps_j2
  obtain ⟨o, h3, h4⟩ := iter_by (body := fun s : T_wirelesslaw51_pair × Int => wirelesslaw51_FriendKeeps_l1 FF l s.1 s.2)
    (fun s => ∃ t : Nat, s.2 = ((l.length + t : Nat) : Int) ∧ t ≤ 120 ∧ S s.1 (l.length + t) ∧ C s.1 (10 * ((l.length + t : Nat) : Int)) ∧ s.1.f.Dropped = 0 ∧ ((t ≤ 4 ∧ s.1.l.Due ≤ 10 * (l.length : Int) + 40) ∨ G s.1 (l.length + t) t))
    (fun o => o = .inr true ∨ ∃ y : T_wirelesslaw51_pair, o = .inl y ∧ y.got.length = y.kept.length)
    (fun s => l.length + 120 - s.2.toNat) (by
    rintro ⟨y, k⟩ ⟨t, hk, ht, hs, hc, hdy, hg⟩
    simp only at hk hs hc hdy hg
    subst hk
    show (∃ s', wirelesslaw51_FriendKeeps_l1 FF l y ((l.length + t : Nat) : Int) = some (.next s') ∧ _) ∨ ∃ o, wirelesslaw51_FriendKeeps_l1 FF l y ((l.length + t : Nat) : Int) = some (.done o) ∧ _
    unfold wirelesslaw51_FriendKeeps_l1
    have hw : w64 (len l + 120) = ((l.length + 120 : Nat) : Int) := by rw [len_nat, w64_id (by omega) (by omega)]; omega
    rw [hw]
    by_cases h120 : t = 120
    · rw [if_neg (df (by omega))]
      refine .inr ⟨_, rfl, .inr ⟨y, rfl, ?_⟩⟩
      have hq : y.f.Queue.length ≤ 1 := by
        rcases hg with hg | hg
        · omega
        · by_cases hu : 1 < y.f.Queue.length
          · have := (hg.u hu).2
            omega
          · omega
      rcases hg with hg | hg
      · omega
      have hk := hc.k
      rw [pollQ_G hg] at hk
      rw [hk, List.length_append]
      unfold seqs
      rw [List.length_map, List.length_drop]
      omega
    · rw [if_pos (dt (by omega)), w_mul (by omega)]
      obtain ⟨x', h5, h6⟩ := round2_ok FF hn ht hs hc hdy hg (by unfold FF; omega)
      rw [h5, Option.bind_some]
      rcases h6 with ⟨e1, e2, e3⟩ | ⟨e1, e2, e3, e4, e5, e6⟩
      · rw [e3, Option.bind_some, if_neg (by decide), if_pos e1, lives_ok, Option.bind_some]
        have hw2 : w64 (len l + 20) = ((l.length + 20 : Nat) : Int) := by rw [len_nat, w64_id (by omega) (by omega)]; omega
        rw [hw2, dt (show ((l.length + t : Nat) : Int) < ((l.length + 20 : Nat) : Int) by omega)]
        exact .inr ⟨_, rfl, .inl rfl⟩
      · rw [e6, Option.bind_some, if_neg (by decide), if_neg (by rw [e1]; decide), w64_nat _ (by omega)]
        refine .inl ⟨_, rfl, ⟨t + 1, rfl, by omega, e3, e4, e2, e5⟩, ?_⟩
        simp only [Int.toNat_natCast]
        omega) FF (x, len l) ⟨0, rfl, by omega, h, h2, hd, .inl ⟨by omega, h.d1⟩⟩ (by rw [len_nat]; simp only [Int.toNat_natCast]; unfold FF; omega)
  rw [h3, Option.bind_some]
  rcases h4 with rfl | ⟨y, rfl, hy⟩
  · rfl
  · show wirelesslaw51_FriendKeeps_j3 FF y = some true
    unfold wirelesslaw51_FriendKeeps_j3
    rw [lives_ok, Option.bind_some]
    have : (len y.got == len y.kept) = true := by rw [len_nat, len_nat, hy]; simp
    rw [this]
    rfl
def x0 : T_wirelesslaw51_pair := T_wirelesslaw51_pair.mk (T_api_Friend.mk 5 [] [] 0 false 0 1 0) (T_api_LowPower.mk 2 9 0 1 0 0 [] 0 false 0) [] [] false
theorem keeps_law (l : List T_wirelesslaw51_Event) : wirelesslaw51_FriendKeeps FF l = some true := by
  unfold wirelesslaw51_FriendKeeps
  by_cases hn : len l > 150
  · rw [if_pos (dt hn), lives_ok, Option.bind_some]
  rw [if_neg (df hn)]
  rw [len_nat] at hn
  have e1 : friend_Befriend FF (T_api_Friend.mk 0 [] [] 0 false 0 0 0) 5 1 0 = some (x0.f, true) := by kernel_rfl
  have e2 : friend_Seek FF (T_api_LowPower.mk 0 0 0 0 0 0 [] 0 false 0) [] 0 = some (T_api_LowPower.mk 1 0 0 1 0 0 [] 0 false 0) := by kernel_rfl
  have e3 : friend_Offer FF (T_api_LowPower.mk 1 0 0 1 0 0 [] 0 false 0) 9 0 = some x0.l := by kernel_rfl
  rw [e1, Option.bind_some, e2, Option.bind_some, e3, Option.bind_some]
  unfold wirelesslaw51_FriendKeeps_j1
  rw [if_neg (by decide)]
  obtain ⟨o, h3, h4⟩ := iter_by (body := fun s : T_wirelesslaw51_pair × Int => wirelesslaw51_FriendKeeps_l2 FF l s.1 s.2)
    (fun s => ∃ i : Nat, s.2 = (i : Int) ∧ i ≤ l.length ∧ S s.1 i ∧ C s.1 (10 * (i : Int)) ∧ s.1.f.Dropped = 0)
    (fun o => o = .inr true ∨ ∃ y : T_wirelesslaw51_pair, o = .inl y ∧ S y l.length ∧ C y (10 * (l.length : Int)) ∧ y.f.Dropped = 0)
    (fun s => l.length - s.2.toNat) (by
    rintro ⟨y, k⟩ ⟨i, hk, hi, hs, hc, hd⟩
    simp only at hk hs hc hd
    subst hk
    show (∃ s', wirelesslaw51_FriendKeeps_l2 FF l y (i : Int) = some (.next s') ∧ _) ∨ ∃ o, wirelesslaw51_FriendKeeps_l2 FF l y (i : Int) = some (.done o) ∧ _
    unfold wirelesslaw51_FriendKeeps_l2
    by_cases hin : i < l.length
    · have hx : l[i]? = some l[i] := List.getElem?_eq_getElem hin
      generalize l[i] = e at hx
      rw [if_pos (dt (by rw [len_nat]; omega)), idx_nat, hx, Option.bind_some, w_mul (by omega)]
      obtain ⟨x', h5, h6⟩ := round_ok FF e (by omega) hs hc hd (by unfold FF; omega)
      rw [h5, Option.bind_some]
      unfold wirelesslaw51_FriendKeeps_j4
      by_cases he : (decide (x'.f.Dropped > 0) || x'.ended) = true
      · rw [if_pos he, lives_ok, Option.bind_some]
        exact .inr ⟨_, rfl, .inl rfl⟩
      · rw [if_neg he]
        rcases h6 with h6 | h6 | ⟨h6, h7, h8, h9⟩
        · rw [h6] at he; simp at he
        · rw [h6] at he; simp at he
        · rw [begins_ok FF h9.k (by have := h8.gl; omega) (by unfold FF; omega), Option.bind_some, if_neg (by decide), w64_nat i (by omega)]
          refine .inl ⟨_, rfl, ⟨i + 1, rfl, by omega, h8, h9, h7⟩, ?_⟩
          simp only [Int.toNat_natCast]
          omega
    · rw [if_neg (df (by rw [len_nat]; omega))]
      have : i = l.length := by omega
      subst this
      exact .inr ⟨_, rfl, .inr ⟨y, rfl, hs, hc, hd⟩⟩) FF (x0, 0) ⟨0, rfl, by omega, by
        refine ⟨⟨by simp [x0], by simp [x0], by simp [x0]⟩, by simp [x0], rfl, .inl rfl, .inl rfl, .inl rfl, rfl, rfl, rfl, ?_, ?_, ?_, ?_, ?_, ?_, ?_, ?_, by simp [x0], .inl rfl, rfl⟩ <;> simp [x0], ⟨rfl, by simp [x0], by simp [x0]⟩, rfl⟩ (by simp only; unfold FF; omega)
  rw [show (T_wirelesslaw51_pair.mk x0.f (T_api_LowPower.mk x0.l.Phase x0.l.Friend x0.l.Bit x0.l.Counter x0.l.Due x0.l.Tries x0.l.Subs x0.l.Told x0.l.More x0.l.Last) [] [] false, (0 : Int)) = (x0, 0) from rfl, h3, Option.bind_some]
  rcases h4 with rfl | ⟨y, rfl, hs, hc, hd⟩
  · rfl
  · exact second_ok (by omega) hs hc hd
end V
end Go.Proofs.Ytphigebccfoppaa
