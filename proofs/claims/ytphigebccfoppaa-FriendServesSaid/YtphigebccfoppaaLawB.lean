/-
  A friend's side: what Keep and Poll compute; the bounds of its queue.
-/
import Derived.Test.YtphigebccfoppaaLoop
import Derived.Test.YtphigebccfoppaaFn
import Derived.KernelRfl
namespace Go.Proofs.Ytphigebccfoppaa
namespace V
def FF : Nat := 1125899906842624
theorem dt {p : Prop} [Decidable p] (h : p) : decide p = true := decide_eq_true h
theorem df {p : Prop} [Decidable p] (h : ¬ p) : ¬ decide p = true := by simpa using h
theorem lives_ok : wirelesslaw51_lives FF = some true := by kernel_rfl
theorem clone_ok (F : Nat) {l : List Int} (h : l.length ≤ 100000) : slices_Clone_uint16_uint16 F l = some l := by
  unfold slices_Clone_uint16_uint16
  rw [app_small (by simp; omega) (by omega), Option.bind_some, List.nil_append]
structure QOk (q : T_api_Queued) : Prop where
  p : q.PDU.Payload.length ≤ 140737488355328
  b : q.Lower.Bytes.length ≤ 140737488355328
theorem own_ok (F : Nat) {q : T_api_Queued} (h : QOk q) : friend_own F q = some q := by
  have c : ∀ l : List Int, l.length ≤ 140737488355328 → slices_Clone_byte_byte F l = some l := fun l hl => by
    unfold slices_Clone_byte_byte
    rw [app_small (by simp; omega) (by omega), Option.bind_some, List.nil_append]
  unfold friend_own
  rw [c _ h.p, c _ h.b, Option.bind_some, Option.bind_some]
theorem cloneq (F : Nat) {l : List T_api_Queued} (h : l.length ≤ 1000) : slices_Clone_api_Queued_api_Queued F l = some l := by
  unfold slices_Clone_api_Queued_api_Queued
  rw [app_small (by simp; omega) (by omega), Option.bind_some, List.nil_append]
/-- A friend's side that is small. -/
structure FOk (f : T_api_Friend) : Prop where
  q : ∀ x ∈ f.Queue, QOk x
  n : f.Queue.length ≤ 1000
  s : f.Subs.length ≤ 100000
theorem upd_same {α : Type} {l : List α} {i : Nat} {x : α} (h : l[i]? = some x) : upd l (i : Int) x = some l := by
  obtain ⟨hi, he⟩ := List.getElem?_eq_some_iff.1 h
  unfold upd
  rw [if_pos (by omega)]
  congr 1
  refine List.ext_getElem? fun k => ?_
  rw [Int.toNat_natCast]
  by_cases hk : i = k
  · subst hk
    rw [List.getElem?_set_self hi, h]
  · rw [List.getElem?_set_ne hk]
theorem apart_ok (F : Nat) {f : T_api_Friend} (h : FOk f) (hF : 2000 < F) : friend_apart F f = some f := by
  obtain ⟨hq, hn, hs⟩ := h
  unfold friend_apart
  rw [clone_ok F hs, cloneq F hn, Option.bind_some, Option.bind_some]
  have := iter_count (body := fun s : List T_api_Queued × Int => friend_apart_l1 F f.Queue s.1 s.2) (fun i => (f.Queue, (i : Int))) f.Queue.length f.Queue (by
    intro i hi
    have hx : f.Queue[i]? = some f.Queue[i] := List.getElem?_eq_getElem hi
    have ho := hq _ (List.getElem_mem hi)
    generalize f.Queue[i] = x at hx ho
    show friend_apart_l1 F f.Queue f.Queue (i : Int) = _
    unfold friend_apart_l1
    rw [if_pos (dt (by rw [len_nat]; omega)), idx_nat, hx, Option.bind_some, Option.bind_some, own_ok F ho, Option.bind_some, Option.bind_some, upd_same hx, Option.bind_some, w64_nat i (by omega)]) (by
    show friend_apart_l1 F f.Queue f.Queue (f.Queue.length : Int) = _
    unfold friend_apart_l1
    rw [if_neg (df (by rw [len_nat]; omega))]) F 0 (by omega) (by omega)
  rw [show ((f.Queue, 0) : List T_api_Queued × Int) = (f.Queue, ((0 : Nat) : Int)) from rfl, this, Option.bind_some]
  rfl
/-- Two messages with the same numbers. -/
def smn (a b : T_api_Queued) : Bool := ((a.PDU.Src == b.PDU.Src) && (a.PDU.IV == b.PDU.IV)) && (a.PDU.Seq == b.PDU.Seq)
theorem keep1 (F : Nat) (x q : T_api_Queued) : friend_Keep_1 F x q = some (smn x q, q) := rfl
theorem contains_ok (F : Nat) (l : List T_api_Queued) (q : T_api_Queued) (hn : l.length ≤ 1000) (hF : 2000 < F) : slices_ContainsFunc_api_Queued_api_Queued_at30 F l q = some (l.any fun x => smn x q, q) := by
  unfold slices_ContainsFunc_api_Queued_api_Queued_at30 slices_IndexFunc_api_Queued_api_Queued_at30
  obtain ⟨o, h1, h2⟩ := iter_by (body := fun s : T_api_Queued × Int => slices_IndexFunc_api_Queued_api_Queued_at30_l1 F l s.1 s.2) (fun s => s.1 = q ∧ ∃ i : Nat, s.2 = (i : Int) ∧ i ≤ l.length ∧ ∀ x ∈ l.take i, smn x q = false) (fun o => (o = .inl q ∧ ∀ x ∈ l, smn x q = false) ∨ ∃ i : Int, 0 ≤ i ∧ o = .inr (i, q) ∧ ∃ x ∈ l, smn x q = true) (fun s => l.length - s.2.toNat) (by
    rintro ⟨c, x⟩ ⟨hc, i, hx, hi, hp⟩
    simp only at hc hx
    subst hc
    subst hx
    show (∃ s', slices_IndexFunc_api_Queued_api_Queued_at30_l1 F l c (i : Int) = some (.next s') ∧ _) ∨ ∃ o, slices_IndexFunc_api_Queued_api_Queued_at30_l1 F l c (i : Int) = some (.done o) ∧ _
    unfold slices_IndexFunc_api_Queued_api_Queued_at30_l1
    by_cases hin : i < l.length
    · have hxa : l[i]? = some l[i] := List.getElem?_eq_getElem hin
      have hm := List.getElem_mem hin
      generalize l[i] = x at hxa hm
      rw [if_pos (dt (show (i : Int) < len l by rw [len_nat]; omega)), idx_nat, hxa, Option.bind_some]
      rw [keep1, Option.bind_some]
      simp only
      by_cases hs : smn x c = true
      · rw [if_pos hs]
        exact .inr ⟨_, rfl, .inr ⟨i, by omega, rfl, x, hm, hs⟩⟩
      · rw [if_neg hs, w64_nat i (by omega)]
        refine .inl ⟨_, rfl, ⟨rfl, i + 1, rfl, hin, ?_⟩, by simp only [Int.toNat_natCast]; omega⟩
        intro y hy
        rw [List.take_add_one, hxa] at hy
        rcases List.mem_append.1 hy with hy | hy
        · exact hp y hy
        · simp at hy
          subst hy
          exact (Bool.not_eq_true _).mp hs
    · rw [if_neg (df (show ¬ (i : Int) < len l by rw [len_nat]; omega))]
      rw [List.take_of_length_le (by omega)] at hp
      exact .inr ⟨_, rfl, .inl ⟨rfl, hp⟩⟩) F (q, 0) ⟨rfl, 0, rfl, by omega, by simp⟩ (by simp only; omega)
  rw [h1, Option.bind_some]
  rcases h2 with ⟨rfl, hp⟩ | ⟨i, hi, rfl, x, hx, hs⟩
  · have : (l.any fun x => smn x q) = false := by
      rw [List.any_eq_false]
      intro x hx
      rw [hp x hx]
      decide
    rw [this]
    rfl
  · have : (l.any fun x => smn x q) = true := List.any_eq_true.2 ⟨x, hx, hs⟩
    rw [this]
    simp only [Option.bind_some]
    rw [dt hi]
def keepS (f : T_api_Friend) (q : T_api_Queued) : T_api_Friend :=
  if f.Low = 0 then f else if (f.Queue.any fun x => smn x q) = true then f
  else if f.Queue.length < 16 then { f with Queue := f.Queue ++ [q] }
  else { f with Queue := if f.Sent = true then (f.Queue ++ [q]).take 1 ++ (f.Queue ++ [q]).drop 2 else (f.Queue ++ [q]).drop 1, Dropped := w64 (f.Dropped + 1) }
theorem without_ok (F : Nat) (l : List T_api_Queued) (i : Nat) (hn : l.length ≤ 1000) (hi : i < l.length) : friend_without_api_Queued F l (i : Int) = some (l.take i ++ l.drop (i + 1)) := by
  unfold friend_without_api_Queued
  rw [cloneq F hn, Option.bind_some, w64_nat i (by omega)]
  unfold slices_Delete_api_Queued_api_Queued
  rw [if_pos (by omega)]
  rfl
theorem with_ok (F : Nat) (l : List T_api_Queued) (q : T_api_Queued) (hn : l.length ≤ 900) : friend_with_api_Queued F l (len l) q = some (l ++ [q]) := by
  unfold friend_with_api_Queued
  rw [cloneq F (by omega), Option.bind_some]
  unfold slices_Insert_api_Queued_api_Queued
  rw [len_nat, sub_nat l l.length l.length (Nat.le_refl _) (Nat.le_refl _), Option.bind_some, if_neg (by simp [len]), if_pos (by simp), app_small (by simp; omega) (by omega)]
  rfl
theorem keep_ok (F : Nat) {f : T_api_Friend} (h : FOk f) (h16 : f.Queue.length ≤ 16) {q : T_api_Queued} (hq : QOk q) (hF : 2000 < F) : friend_Keep F f q = some (keepS f q) := by
  unfold friend_Keep
  rw [apart_ok F h hF, Option.bind_some]
  unfold keepS
  by_cases h0 : f.Low = 0
  · rw [if_pos (by simpa using h0), if_pos h0, Option.bind_some]
    rfl
  · rw [if_neg (by simpa using h0), if_neg h0, contains_ok F _ _ h.n hF, Option.bind_some, Option.bind_some]
    unfold friend_Keep_j4
    by_cases ha : (f.Queue.any fun x => smn x q) = true
    · rw [if_pos ha, if_pos ha]
    · rw [if_neg ha, if_neg ha, own_ok F hq, Option.bind_some, with_ok F _ _ (by omega), Option.bind_some]
      unfold friend_Keep_j1
      by_cases hl : f.Queue.length < 16
      · rw [if_neg (df (by rw [len_nat, List.length_append, List.length_singleton]; omega)), if_pos hl]
        rfl
      · rw [if_pos (dt (by rw [len_nat, List.length_append, List.length_singleton]; omega)), if_neg hl]
        unfold friend_Keep_j3
        have hlen : (f.Queue ++ [q]).length = f.Queue.length + 1 := by rw [List.length_append, List.length_singleton]
        by_cases hs : f.Sent = true
        · have := without_ok F (f.Queue ++ [q]) 1 (by omega) (by omega)
          rw [show ((1 : Nat) : Int) = 1 from rfl] at this
          rw [if_pos hs, if_pos hs, this]
          rfl
        · have := without_ok F (f.Queue ++ [q]) 0 (by omega) (by omega)
          rw [show ((0 : Nat) : Int) = 0 from rfl] at this
          rw [if_neg hs, if_neg hs, this]
          rfl
/-- What is left of the queue behind a poll. -/
def pollQ (f : T_api_Friend) (bit : Int) : List T_api_Queued := if ((f.Sent && (bit != f.Bit)) && (decide ((len f.Queue) > 0))) = true then f.Queue.drop 1 else f.Queue
def pollS (f : T_api_Friend) (bit now : Int) : T_api_Friend × List T_api_Queued :=
  if ((f.Low == 0) || ((bit != 0) && (bit != 1))) = true then (f, [])
  else ({ f with Queue := pollQ f bit, Bit := bit, Sent := decide (len (pollQ f bit) > 0), Polled := now }, (pollQ f bit).take 1)
theorem poll_ok (F : Nat) {f : T_api_Friend} (h : FOk f) (bit now : Int) (hF : 2000 < F) : friend_Poll F f bit now = some (pollS f bit now) := by
  obtain ⟨hq, hn, hs⟩ := h
  unfold friend_Poll
  rw [apart_ok F ⟨hq, hn, hs⟩ hF, Option.bind_some]
  unfold pollS
  by_cases h0 : ((f.Low == 0) || ((bit != 0) && (bit != 1))) = true
  · rw [if_pos h0, if_pos h0]
  · rw [if_neg h0, if_neg h0]
    have fin : ∀ l : List T_api_Queued, (∀ x ∈ l, QOk x) → friend_Poll_j1 F bit now f l = some ({ f with Queue := l, Bit := bit, Sent := decide (len l > 0), Polled := now }, l.take 1) := by
      intro l hl
      unfold friend_Poll_j1
      cases l with
      | nil => rw [if_pos (by simp [len])]; rfl
      | cons x r =>
        rw [if_neg (by simp [len]), show idx (x :: r) 0 = some x from rfl, Option.bind_some, own_ok F (hl x (by simp)), Option.bind_some]
        rfl
    unfold pollQ
    by_cases hp : ((f.Sent && (bit != f.Bit)) && (decide ((len f.Queue) > 0))) = true
    · have hl : 0 < f.Queue.length := by
        simp only [Bool.and_eq_true, decide_eq_true_eq] at hp
        have := hp.2
        rw [len_nat] at this
        omega
      have hw := without_ok F f.Queue 0 hn hl
      rw [show ((0 : Nat) : Int) = 0 from rfl, List.take_zero, List.nil_append] at hw
      rw [if_pos hp, if_pos hp, hw, Option.bind_some]
      exact fin _ fun x hx => hq x (List.mem_of_mem_drop hx)
    · rw [if_neg hp, if_neg hp]
      exact fin _ hq
end V
end Go.Proofs.Ytphigebccfoppaa
