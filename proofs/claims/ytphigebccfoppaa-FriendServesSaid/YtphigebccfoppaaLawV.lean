/-
  A friend's side: the document's functions compute what the program's do.
-/
import Derived.Test.YtphigebccfoppaaLawB
namespace Go.Proofs.Ytphigebccfoppaa
namespace V
theorem same_refl (F : Nat) (l : List Int) : wirelessref02_Same F l l = some true := by simp [wirelessref02_Same]
theorem subs_refl (F : Nat) (l : List Int) (hn : l.length ≤ 100000) (hF : 200000 < F) : wirelesslaw51_sameSubs F l l = some true := by
  unfold wirelesslaw51_sameSubs
  rw [if_neg (by simp)]
  have := iter_count (body := fun s : Int => wirelesslaw51_sameSubs_l1 F l l s) (fun i => (i : Int)) l.length (.inl ()) (by
    intro i hi
    have hx : l[i]? = some l[i] := List.getElem?_eq_getElem hi
    show wirelesslaw51_sameSubs_l1 F l l (i : Int) = _
    unfold wirelesslaw51_sameSubs_l1
    rw [if_pos (dt (by rw [len_nat]; omega)), idx_nat, hx, Option.bind_some, Option.bind_some]
    unfold wirelesslaw51_sameSubs_j2
    rw [if_neg (by simp), w64_nat i (by omega)]) (by
    show wirelesslaw51_sameSubs_l1 F l l (l.length : Int) = _
    unfold wirelesslaw51_sameSubs_l1
    rw [if_neg (df (by rw [len_nat]; omega))]) F 0 (by omega) (by omega)
  rw [show (0 : Int) = ((0 : Nat) : Int) from rfl, this, Option.bind_some]
  rfl
theorem lower_refl (F : Nat) (a : T_api_Lower) : wirelessref50_SameLower F a a = some true := by
  unfold wirelessref50_SameLower wirelessref50_sameHead
  simp [same_refl]
theorem node_refl (F : Nat) (a : T_api_Queued) : wirelesslaw51_sameNode F a a = some true := by
  unfold wirelesslaw51_sameNode wirelesslaw51_sameNode_j1
  simp [same_refl, lower_refl]
theorem queue_refl (F : Nat) (l : List T_api_Queued) (hn : l.length ≤ 100000) (hF : 200000 < F) : wirelesslaw51_sameQueue F l l = some true := by
  unfold wirelesslaw51_sameQueue
  rw [if_neg (by simp)]
  have := iter_count (body := fun s : Int => wirelesslaw51_sameQueue_l1 F l l s) (fun i => (i : Int)) l.length (.inl ()) (by
    intro i hi
    have hx : l[i]? = some l[i] := List.getElem?_eq_getElem hi
    show wirelesslaw51_sameQueue_l1 F l l (i : Int) = _
    unfold wirelesslaw51_sameQueue_l1
    rw [if_pos (dt (by rw [len_nat]; omega)), idx_nat, hx, Option.bind_some, Option.bind_some, node_refl, Option.bind_some]
    unfold wirelesslaw51_sameQueue_j2
    rw [if_neg (by decide), w64_nat i (by omega)]) (by
    show wirelesslaw51_sameQueue_l1 F l l (l.length : Int) = _
    unfold wirelesslaw51_sameQueue_l1
    rw [if_neg (df (by rw [len_nat]; omega))]) F 0 (by omega) (by omega)
  rw [show (0 : Int) = ((0 : Nat) : Int) from rfl, this, Option.bind_some]
  rfl
theorem friend_refl (F : Nat) {f : T_api_Friend} (h : FOk f) (hF : 200000 < F) : wirelesslaw51_SameFriend F f f = some true := by
  unfold wirelesslaw51_SameFriend
  rw [queue_refl F _ (by have := h.n; omega) hF, subs_refl F _ h.s hF]
  simp
/-- What holds of a friend's side between two calls. -/
structure Fi (f : T_api_Friend) (now : Int) : Prop where
  ok : FOk f
  n : f.Queue.length ≤ 16
  sn : f.Subs.length ≤ 64
  so : f.Subs.Pairwise (· < ·)
  p0 : 0 ≤ f.Polled
  p1 : f.Polled ≤ now
theorem Fi.up {f : T_api_Friend} {now t : Int} (h : Fi f now) (ht : now ≤ t) : Fi f t := { h with p1 := by have := h.p1; omega }
theorem qok {q : T_api_Queued} (hp : len q.PDU.Payload ≤ 50) (hb : len q.Lower.Bytes ≤ 50) : QOk q := by
  rw [len_nat] at hp hb
  exact ⟨by omega, by omega⟩
theorem mem_cut {α : Type} {l : List α} {n : Nat} {x : α} (h : x ∈ l.take n ++ l.drop (n + 1)) : x ∈ l := by
  rcases List.mem_append.1 h with h | h
  · exact List.mem_of_mem_take h
  · exact List.mem_of_mem_drop h
/-! ### Over, Befriend -/
def ov (f : T_api_Friend) (now : Int) : Bool := decide (now ≥ f.Polled + 200)
theorem over1 (F : Nat) {f : T_api_Friend} {now : Int} (h : Fi f now) (hn : now ≤ 1099511627776) : friend_over F f now = some (ov f now) := by
  have := h.p0; have := h.p1
  unfold friend_over ov
  rw [w64_id (by omega) (by omega)]
theorem late1 (F : Nat) {f : T_api_Friend} {now : Int} (h : Fi f now) (hn : now ≤ 1099511627776) : wirelessref51_late F f.Polled now = some (ov f now) := by
  have := h.p0; have := h.p1
  unfold wirelessref51_late ov
  rw [w64_id (by omega) (by omega)]
  congr 1
  exact decide_eq_decide.2 (by omega)
theorem rover (F : Nat) {f : T_api_Friend} {now : Int} (h : Fi f now) (hn : now ≤ 1099511627776) : wirelessref51_Over F f now = some ((f.Low != 0) && ov f now) := by
  unfold wirelessref51_Over
  rw [late1 F h hn]
  by_cases h0 : (f.Low != 0) = true
  · rw [if_pos h0, h0]; rfl
  · rw [if_neg h0, (Bool.not_eq_true _).mp h0]; rfl
theorem uover (F : Nat) {f : T_api_Friend} {now : Int} (h : Fi f now) (hn : now ≤ 1099511627776) : friend_Over F f now = some ((f.Low != 0) && ov f now) := by
  unfold friend_Over
  rw [over1 F h hn]
  by_cases h0 : (f.Low != 0) = true
  · rw [if_pos h0, h0]; rfl
  · rw [if_neg h0, (Bool.not_eq_true _).mp h0]; rfl
theorem befriend_ok (F : Nat) {f : T_api_Friend} {now : Int} (h : Fi f now) (hn0 : 0 ≤ now) (hn : now ≤ 1099511627776) (low counter : Int) (hF : 2000 < F) :
    ∃ r, friend_Befriend F f low counter now = some r ∧ wirelessref51_Befriend F f low counter now = some r ∧ Fi r.1 now := by
  unfold friend_Befriend wirelessref51_Befriend
  rw [apart_ok F h.ok hF, Option.bind_some]
  unfold netpdu_Node wirelessref48_Node
  rw [Option.bind_some, Option.bind_some, over1 F h hn, rover F h hn]
  have e1 : decide (low ≤ 32767) = decide (low < 32768) := decide_eq_decide.2 (by omega)
  have e2 : decide (counter ≥ 65536) = decide (counter > 65535) := decide_eq_decide.2 (by omega)
  rw [e1, e2]
  by_cases hbad : ((!((decide (low > 0)) && (decide (low < 32768)))) || (decide (counter < 0)) || (decide (counter > 65535))) = true
  · rw [if_pos hbad, if_pos hbad]
    exact ⟨_, rfl, rfl, h⟩
  · rw [if_neg hbad, if_neg hbad]
    have hlow : 0 < low := by
      by_cases hl : low > 0
      · exact hl
      · simp [hl] at hbad
    have hne : Fi { f with Polled := now } now := { h with ok := ⟨h.ok.q, h.ok.n, h.ok.s⟩, p0 := hn0, p1 := Int.le_refl _ }
    have hnew : Fi (T_api_Friend.mk low [] [] 0 false now counter 0) now := ⟨⟨by simp, by simp, by simp⟩, by simp, by simp, by simp, hn0, Int.le_refl _⟩
    by_cases h0 : (f.Low != 0) = true
    · rw [if_pos h0, if_pos h0, h0]
      cases hov : ov f now with
      | true =>
        by_cases h1 : (f.Low != low) = true
        · rw [if_pos h1, if_pos h1]
          by_cases h2 : ((f.Low == low) && (f.Counter == counter)) = true
          · simp [h2] at h1 ⊢
            simp [h1] at h2
          · simp [h2]
            exact hnew
        · rw [if_neg h1, if_neg h1]
          by_cases h2 : ((f.Low == low) && (f.Counter == counter)) = true
          · rw [if_pos h2, if_pos h2]
            exact ⟨_, rfl, rfl, hnew⟩
          · rw [if_neg h2, if_neg h2]
            exact ⟨_, rfl, rfl, hnew⟩
      | false =>
        by_cases h1 : (f.Low != low) = true
        · rw [if_pos h1, if_pos h1]
          exact ⟨_, rfl, rfl, h⟩
        · rw [if_neg h1, if_neg h1]
          by_cases h2 : ((f.Low == low) && (f.Counter == counter)) = true
          · rw [if_pos h2, if_pos h2]
            exact ⟨_, rfl, rfl, hne⟩
          · rw [if_neg h2, if_neg h2]
            exact ⟨_, rfl, rfl, hnew⟩
    · have h00 : f.Low = 0 := by simpa using h0
      have h2 : ¬ ((f.Low == low) && (f.Counter == counter)) = true := by
        rw [beq_false_of_ne (show f.Low ≠ low by omega)]; simp
      have hff : ¬ (false = true) := by decide
      rw [if_neg h0, if_neg h0, if_neg h2, if_neg h2, if_neg hff, if_neg hff]
      exact ⟨_, rfl, rfl, hnew⟩
/-! ### Keep -/
theorem rkeep_ok (F : Nat) {f : T_api_Friend} {now : Int} (h : Fi f now) {q : T_api_Queued} (hq : QOk q) (hF : 2000 < F) : wirelessref51_Keep F f q = some (keepS f q) := by
  have hn := h.n
  unfold wirelessref51_Keep keepS
  by_cases h0 : f.Low = 0
  · rw [if_pos (by simpa using h0), if_pos h0]
  · rw [if_neg (by simpa using h0), if_neg h0]
    have := iter_any (body := fun s : Int => wirelessref51_Keep_l1 F f q s) (l := f.Queue) (p := fun x => smn x q) (o := .inr f) (e := .inl ()) (by
      intro i x hx
      have hi := (List.getElem?_eq_some_iff.1 hx).1
      show wirelessref51_Keep_l1 F f q (i : Int) = _
      unfold wirelessref51_Keep_l1
      rw [if_pos (dt (by rw [len_nat]; omega)), idx_nat, hx, Option.bind_some, w64_nat i (by omega)]
      unfold smn
      split <;> rfl) (by
      show wirelessref51_Keep_l1 F f q (f.Queue.length : Int) = _
      unfold wirelessref51_Keep_l1
      rw [if_neg (df (by rw [len_nat]; omega))]) F 0 (by omega) (by omega)
    rw [show (0 : Int) = ((0 : Nat) : Int) from rfl, this, Option.bind_some, List.drop_zero]
    by_cases ha : (f.Queue.any fun x => smn x q) = true
    · rw [if_pos ha, if_pos ha]
    · rw [if_neg ha, if_neg ha]
      show wirelessref51_Keep_j1 F f q = _
      unfold wirelessref51_Keep_j1
      rw [app_small (by simp; omega) (by omega), Option.bind_some, List.nil_append, app_small (by simp; omega) (by omega), Option.bind_some]
      unfold wirelessref51_Keep_j2
      have hlen : (f.Queue ++ [q]).length = f.Queue.length + 1 := by rw [List.length_append, List.length_singleton]
      by_cases hl : f.Queue.length < 16
      · rw [if_neg (df (by rw [len_nat]; omega)), if_pos hl]
        rfl
      · rw [if_pos (dt (by rw [len_nat]; omega)), if_neg hl]
        have htl : (f.Queue ++ [q]).take (f.Queue ++ [q]).length = f.Queue ++ [q] := List.take_length
        by_cases hs : f.Sent = true
        · rw [if_pos hs, if_pos hs]
          have hs2 := sub_nat (f.Queue ++ [q]) 2 (f.Queue ++ [q]).length (by omega) (Nat.le_refl _)
          rw [htl] at hs2
          rw [len_nat, show (2 : Int) = ((2 : Nat) : Int) from rfl, hs2]
          cases hQ : f.Queue ++ [q] with
          | nil => rw [hQ] at hlen; simp at hlen
          | cons a r =>
            rw [show idx (a :: r) 0 = some a from rfl, Option.bind_some, Option.bind_some, app_small (by rw [hQ] at hlen; simp at hlen; simp; omega) (by omega)]
            rfl
        · rw [if_neg hs, if_neg hs]
          have hs2 := sub_nat (f.Queue ++ [q]) 1 (f.Queue ++ [q]).length (by omega) (Nat.le_refl _)
          rw [htl] at hs2
          rw [len_nat, show (1 : Int) = ((1 : Nat) : Int) from rfl, hs2]
          rfl
theorem keepS_I {f : T_api_Friend} {now : Int} (h : Fi f now) {q : T_api_Queued} (hq : QOk q) : Fi (keepS f q) now := by
  have hn := h.n
  have hmem : ∀ x ∈ f.Queue ++ [q], QOk x := by
    intro x hx
    rcases List.mem_append.1 hx with hx | hx
    · exact h.ok.q x hx
    · simp at hx
      rw [hx]
      exact hq
  have hlen : (f.Queue ++ [q]).length = f.Queue.length + 1 := by rw [List.length_append, List.length_singleton]
  have base : ∀ (Q : List T_api_Queued) (d : Int), (∀ x ∈ Q, QOk x) → Q.length ≤ 16 → Fi { f with Queue := Q, Dropped := d } now := fun Q d hQ hl => { h with
    ok := ⟨hQ, by show Q.length ≤ 1000; omega, h.ok.s⟩
    n := hl }
  unfold keepS
  by_cases h0 : f.Low = 0
  · rw [if_pos h0]; exact h
  · rw [if_neg h0]
    by_cases ha : (f.Queue.any fun x => smn x q) = true
    · rw [if_pos ha]; exact h
    · rw [if_neg ha]
      by_cases hl : f.Queue.length < 16
      · rw [if_pos hl]
        exact base (f.Queue ++ [q]) f.Dropped hmem (by omega)
      · rw [if_neg hl]
        refine base _ _ ?_ ?_
        · intro y hy
          split at hy
          · exact hmem y (mem_cut hy)
          · exact hmem y (List.mem_of_mem_drop hy)
        · split
          · rw [List.length_append, List.length_take, List.length_drop]; omega
          · rw [List.length_drop]; omega
/-! ### Poll -/
theorem rpoll_ok (F : Nat) {f : T_api_Friend} {now : Int} (h : Fi f now) (bit t : Int) : wirelessref51_Poll F f bit t = some (pollS f bit t) := by
  have hn := h.n
  unfold wirelessref51_Poll pollS
  by_cases h0 : ((f.Low == 0) || ((bit != 0) && (bit != 1))) = true
  · rw [if_pos h0, if_pos h0]
  · rw [if_neg h0, if_neg h0, app_small (by simp; omega) (by omega), Option.bind_some, List.nil_append]
    have fin : ∀ l : List T_api_Queued, l.length ≤ 16 → wirelessref51_Poll_j1 F f bit t l = some ({ f with Queue := l, Bit := bit, Sent := decide (len l > 0), Polled := t }, l.take 1) := by
      intro l hl
      unfold wirelessref51_Poll_j1
      have hm : imin 1 (len l) = ((Nat.min 1 l.length : Nat) : Int) := by
        unfold imin
        rw [len_nat]
        simp only [Nat.min_def]
        split <;> split <;> omega
      have hs2 := sub_nat l 0 (Nat.min 1 l.length) (Nat.zero_le _) (Nat.min_le_right _ _)
      rw [hm, show (0 : Int) = ((0 : Nat) : Int) from rfl, hs2, Option.bind_some, List.drop_zero]
      have ht : l.take (Nat.min 1 l.length) = l.take 1 := by
        cases l with
        | nil => rfl
        | cons a r => rw [show Nat.min 1 (a :: r).length = 1 from Nat.min_eq_left (by simp)]
      rw [ht, app_small (by simp; omega) (by omega)]
      rfl
    unfold pollQ
    by_cases hp : ((f.Sent && (bit != f.Bit)) && (decide ((len f.Queue) > 0))) = true
    · have hl : 0 < f.Queue.length := by
        simp only [Bool.and_eq_true, decide_eq_true_eq] at hp
        have := hp.2
        rw [len_nat] at this
        omega
      have hs2 := sub_nat f.Queue 1 f.Queue.length (by omega) (Nat.le_refl _)
      rw [List.take_length] at hs2
      rw [if_pos hp, if_pos hp, len_nat, show (1 : Int) = ((1 : Nat) : Int) from rfl, hs2, Option.bind_some]
      exact fin _ (by rw [List.length_drop]; omega)
    · rw [if_neg hp, if_neg hp]
      exact fin _ hn
theorem pollS_I {f : T_api_Friend} {now : Int} (h : Fi f now) (bit : Int) (hn0 : 0 ≤ now) : Fi (pollS f bit now).1 now ∧ (pollS f bit now).2.length ≤ 100000 := by
  have hn := h.n
  unfold pollS
  by_cases h0 : ((f.Low == 0) || ((bit != 0) && (bit != 1))) = true
  · rw [if_pos h0]
    exact ⟨h, by simp⟩
  · rw [if_neg h0]
    have hl : (pollQ f bit).length ≤ f.Queue.length := by
      unfold pollQ
      split
      · rw [List.length_drop]; omega
      · omega
    have hm : ∀ x ∈ pollQ f bit, QOk x := by
      intro x hx
      unfold pollQ at hx
      split at hx
      · exact h.ok.q x (List.mem_of_mem_drop hx)
      · exact h.ok.q x hx
    refine ⟨{ h with ok := ⟨hm, ?_, h.ok.s⟩, n := ?_, p0 := hn0, p1 := Int.le_refl _ }, ?_⟩
    · show (pollQ f bit).length ≤ 1000; omega
    · show (pollQ f bit).length ≤ 16; omega
    · show ((pollQ f bit).take 1).length ≤ 100000
      rw [List.length_take]; omega
end V
end Go.Proofs.Ytphigebccfoppaa
