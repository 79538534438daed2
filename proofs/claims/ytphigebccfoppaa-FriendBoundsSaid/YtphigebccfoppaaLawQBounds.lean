/-
  The bounds of a friend's queue: the plain law.
-/
import Derived.Test.YtphigebccfoppaaLawB
namespace Go.Proofs.Ytphigebccfoppaa
namespace V
structure K (f : T_api_Friend) (i : Nat) : Prop where
  ok : FOk f
  n : f.Queue.length ≤ 16
  p : f.Queue.Pairwise fun a b => smn a b = false
  d0 : 0 ≤ f.Dropped
  d1 : f.Dropped ≤ i
theorem cut_sub {α : Type} : ∀ l : List α, (l.take 1 ++ l.drop 2).Sublist l
  | [] => List.Sublist.refl _
  | [a] => List.Sublist.refl _
  | a :: b :: r => by
    show (a :: r).Sublist (a :: b :: r)
    exact List.Sublist.cons_cons a (List.sublist_cons_self b r)
theorem keep_K {f : T_api_Friend} {i : Nat} (h : K f i) (hi : i ≤ 1000) {q : T_api_Queued} (hq : QOk q) : K (keepS f q) (i + 1) ∧ ((len (keepS f q).Queue + (keepS f q).Dropped = len f.Queue + f.Dropped) ∨ (len (keepS f q).Queue + (keepS f q).Dropped = len f.Queue + f.Dropped + 1)) := by
  obtain ⟨⟨hq1, hq2, hq3⟩, hn, hp, d0, d1⟩ := h
  unfold keepS
  by_cases h0 : f.Low = 0
  · rw [if_pos h0]
    exact ⟨⟨⟨hq1, hq2, hq3⟩, hn, hp, d0, by omega⟩, .inl rfl⟩
  · rw [if_neg h0]
    by_cases ha : (f.Queue.any fun x => smn x q) = true
    · rw [if_pos ha]
      exact ⟨⟨⟨hq1, hq2, hq3⟩, hn, hp, d0, by omega⟩, .inl rfl⟩
    · rw [if_neg ha]
      have hmem : ∀ x ∈ f.Queue ++ [q], QOk x := by
        intro x hx
        rcases List.mem_append.1 hx with hx | hx
        · exact hq1 x hx
        · simp at hx
          subst hx
          exact hq
      have hpw : (f.Queue ++ [q]).Pairwise fun a b => smn a b = false := by
        rw [List.pairwise_append]
        refine ⟨hp, List.pairwise_singleton _ _, fun a haq b hb => ?_⟩
        simp at hb
        subst hb
        cases hs : smn a b with
        | false => rfl
        | true => exact absurd (List.any_eq_true.2 ⟨a, haq, hs⟩) ha
      have hlen : (f.Queue ++ [q]).length = f.Queue.length + 1 := by rw [List.length_append, List.length_singleton]
      by_cases hl : f.Queue.length < 16
      · rw [if_pos hl]
        refine ⟨⟨⟨hmem, by show (f.Queue ++ [q]).length ≤ 1000; omega, hq3⟩, by show (f.Queue ++ [q]).length ≤ 16; omega, hpw, d0, by show f.Dropped ≤ _; omega⟩, .inr ?_⟩
        show len (f.Queue ++ [q]) + f.Dropped = _
        rw [len_nat, len_nat, hlen]
        omega
      · rw [if_neg hl]
        have hd : w64 (f.Dropped + 1) = f.Dropped + 1 := w64_id (by omega) (by omega)
        obtain ⟨Q, hQ⟩ : ∃ Q, Q = (if f.Sent = true then (f.Queue ++ [q]).take 1 ++ (f.Queue ++ [q]).drop 2 else (f.Queue ++ [q]).drop 1) := ⟨_, rfl⟩
        have hsub : Q.Sublist (f.Queue ++ [q]) := by
          rw [hQ]
          by_cases hs : f.Sent = true
          · rw [if_pos hs]; exact cut_sub _
          · rw [if_neg hs]; exact List.drop_sublist _ _
        have hQl : Q.length = f.Queue.length := by
          rw [hQ]
          by_cases hs : f.Sent = true
          · rw [if_pos hs, List.length_append, List.length_take, List.length_drop, hlen]; omega
          · rw [if_neg hs, List.length_drop, hlen]; omega
        rw [← hQ, hd]
        refine ⟨⟨⟨fun x hx => hmem x (hsub.subset hx), by show Q.length ≤ 1000; omega, hq3⟩, by show Q.length ≤ 16; omega, hpw.sublist hsub, by show 0 ≤ f.Dropped + 1; omega, by show f.Dropped + 1 ≤ _; omega⟩, .inr ?_⟩
        show len Q + (f.Dropped + 1) = _
        rw [len_nat, len_nat, hQl]
        omega
theorem poll_K {f : T_api_Friend} {i : Nat} (h : K f i) (bit now : Int) : K (pollS f bit now).1 (i + 1) := by
  obtain ⟨⟨hq1, hq2, hq3⟩, hn, hp, d0, d1⟩ := h
  unfold pollS
  by_cases h0 : ((f.Low == 0) || ((bit != 0) && (bit != 1))) = true
  · rw [if_pos h0]
    exact ⟨⟨hq1, hq2, hq3⟩, hn, hp, d0, by show f.Dropped ≤ _; omega⟩
  · rw [if_neg h0]
    have hsub : (pollQ f bit).Sublist f.Queue := by
      unfold pollQ
      by_cases hs : ((f.Sent && (bit != f.Bit)) && (decide ((len f.Queue) > 0))) = true
      · rw [if_pos hs]; exact List.drop_sublist _ _
      · rw [if_neg hs]; exact List.Sublist.refl _
    have hl := hsub.length_le
    exact ⟨⟨fun x hx => hq1 x (hsub.subset hx), by show (pollQ f bit).length ≤ 1000; omega, hq3⟩, by show (pollQ f bit).length ≤ 16; omega, hp.sublist hsub, d0, by show f.Dropped ≤ _; omega⟩
theorem pairs_ok (F : Nat) {f : T_api_Friend} {i : Nat} (h : K f i) (hF : 2000 < F) : iter (fun s : Int => wirelesslaw51_FriendBounds_l2 F f s) F 0 = some (.inl f) := by
  obtain ⟨_, hn, hp, _, _⟩ := h
  rw [List.pairwise_iff_getElem] at hp
  have := iter_count (body := fun s : Int => wirelesslaw51_FriendBounds_l2 F f s) (fun k => (k : Int)) f.Queue.length (.inl f) (by
    intro k hk
    show wirelesslaw51_FriendBounds_l2 F f (k : Int) = _
    unfold wirelesslaw51_FriendBounds_l2
    rw [if_pos (dt (by rw [len_nat]; omega))]
    have h3 := iter_count (body := fun s : Int => wirelesslaw51_FriendBounds_l3 F f (k : Int) s) (fun j => (j : Int)) k (.inl ()) (by
      intro j hj
      have hxj : f.Queue[j]? = some f.Queue[j] := List.getElem?_eq_getElem (by omega)
      have hxk : f.Queue[k]? = some f.Queue[k] := List.getElem?_eq_getElem hk
      have hs := hp j k (by omega) hk hj
      show wirelesslaw51_FriendBounds_l3 F f (k : Int) (j : Int) = _
      unfold wirelesslaw51_FriendBounds_l3
      rw [if_pos (dt (by omega)), idx_nat, idx_nat, hxj, hxk, Option.bind_some, Option.bind_some]
      unfold wirelesslaw51_FriendBounds_j5
      rw [if_neg (by
        show ¬ smn f.Queue[j] f.Queue[k] = true
        rw [hs]
        decide), w64_nat j (by omega)]) (by
      show wirelesslaw51_FriendBounds_l3 F f (k : Int) (k : Int) = _
      unfold wirelesslaw51_FriendBounds_l3
      rw [if_neg (df (by omega))]) F 0 (by omega) (by omega)
    rw [show ((0 : Nat) : Int) = 0 from rfl] at h3
    rw [h3, Option.bind_some]
    simp only
    unfold wirelesslaw51_FriendBounds_j4
    rw [w64_nat k (by omega)]) (by
    show wirelesslaw51_FriendBounds_l2 F f (f.Queue.length : Int) = _
    unfold wirelesslaw51_FriendBounds_l2
    rw [if_neg (df (by rw [len_nat]; omega))]) F 0 (by omega) (by omega)
  exact this
theorem befriend0 : friend_Befriend FF (T_api_Friend.mk 0 [] [] 0 false 0 0 0) 5 1 0 = some (T_api_Friend.mk 5 [] [] 0 false 0 1 0, true) := by kernel_rfl
def OOk (l : List T_wirelesslaw51_Op) : Prop := ∀ o ∈ l, QOk o.Q
theorem bounds_law (l : List T_wirelesslaw51_Op) (ho : OOk l) : wirelesslaw51_FriendBounds FF l = some true := by
  have hF : FF = 1125899906842624 := rfl
  unfold wirelesslaw51_FriendBounds
  rw [lives_ok]
  by_cases hl : len l > 200
  · rw [if_pos (dt hl)]
    rfl
  · rw [if_neg (df hl), befriend0, Option.bind_some, if_neg (by decide)]
    rw [len_nat] at hl
    obtain ⟨q, h1, rfl⟩ := iter_by (body := fun s : T_api_Friend × Int => wirelesslaw51_FriendBounds_l1 FF l s.1 s.2) (fun s => ∃ i : Nat, s.2 = (i : Int) ∧ i ≤ l.length ∧ K s.1 i) (fun o => o = .inl ()) (fun s => l.length - s.2.toNat) (by
      rintro ⟨f, x⟩ ⟨i, hx, hi, hk⟩
      simp only at hx hk
      subst hx
      show (∃ s', wirelesslaw51_FriendBounds_l1 FF l f (i : Int) = some (.next s') ∧ _) ∨ ∃ o, wirelesslaw51_FriendBounds_l1 FF l f (i : Int) = some (.done o) ∧ _
      unfold wirelesslaw51_FriendBounds_l1
      by_cases hin : i < l.length
      · have hxa : l[i]? = some l[i] := List.getElem?_eq_getElem hin
        have hop := ho _ (List.getElem_mem hin)
        generalize l[i] = o at hxa hop
        rw [if_pos (dt (show (i : Int) < len l by rw [len_nat]; omega)), idx_nat, hxa, Option.bind_some]
        have fin : ∀ g, K g (i + 1) → ((if (o.Kind != 2) = true then if ((w64 ((len g.Queue) + g.Dropped)) != (w64 ((len f.Queue) + f.Dropped))) = true then some (((w64 ((len g.Queue) + g.Dropped)) != (w64 ((w64 ((len f.Queue) + f.Dropped)) + 1)))) else some false else some false) = some false) → wirelesslaw51_FriendBounds_j3 FF l f (i : Int) g = some (.next (g, ((i + 1 : Nat) : Int))) := by
          intro g hg hs
          unfold wirelesslaw51_FriendBounds_j3
          have hgn := hg.n
          rw [if_neg (df (by rw [len_nat]; omega)), idx_nat, hxa, Option.bind_some]
          have e : (if (o.Kind != 2) = true then if ((w64 ((len g.Queue) + g.Dropped)) != (w64 ((len f.Queue) + f.Dropped))) = true then some (((w64 ((len g.Queue) + g.Dropped)) != (w64 ((w64 ((len f.Queue) + f.Dropped)) + 1)))) else some false else if false = true then some (((w64 ((len g.Queue) + g.Dropped)) != (w64 ((w64 ((len f.Queue) + f.Dropped)) + 1)))) else some false) = some false := hs
          rw [e, Option.bind_some, if_neg (by decide), pairs_ok FF hg (by omega), Option.bind_some]
          simp only
          unfold wirelesslaw51_FriendBounds_j2
          rw [w64_nat i (by omega)]
        by_cases k2 : (o.Kind == 2) = true
        · have hp := poll_K hk o.Number 0
          rw [if_pos k2, Option.bind_some, poll_ok FF hk.ok _ _ (by omega), Option.bind_some]
          rw [fin _ hp (by rw [if_neg (by simpa using k2)])]
          exact .inl ⟨_, rfl, ⟨i + 1, rfl, hin, hp⟩, by simp only [Int.toNat_natCast]; omega⟩
        · obtain ⟨hp, hsum⟩ := keep_K hk (by omega) hop
          have d0 := hk.d0
          have d1 := hk.d1
          have n0 := hk.n
          have p0 := hp.d0
          have p1 := hp.d1
          have pn := hp.n
          rw [if_neg k2, Option.bind_some, keep_ok FF hk.ok hk.n hop (by omega), Option.bind_some]
          rw [fin _ hp (by
            rw [if_pos (by simpa using k2)]
            rw [len_nat, len_nat] at hsum ⊢
            generalize ((keepS f o.Q).Queue.length : Int) + (keepS f o.Q).Dropped = A at hsum ⊢
            generalize hB : (f.Queue.length : Int) + f.Dropped = B at hsum ⊢
            have hB0 : 0 ≤ B := by omega
            have hB1 : B ≤ 2000 := by omega
            clear hB
            rcases hsum with rfl | rfl
            · rw [if_neg (by simp)]
            · rw [w64_id (x := B) (by omega) (by omega)]
              by_cases hq : (w64 (B + 1) != B) = true
              · rw [if_pos hq]
                simp
              · rw [if_neg hq])]
          exact .inl ⟨_, rfl, ⟨i + 1, rfl, hin, hp⟩, by simp only [Int.toNat_natCast]; omega⟩
      · rw [if_neg (df (show ¬ (i : Int) < len l by rw [len_nat]; omega))]
        exact .inr ⟨_, rfl, rfl⟩) FF (T_api_Friend.mk 5 [] [] 0 false 0 1 0, 0) ⟨0, rfl, by omega, ⟨⟨by simp, by simp, by simp⟩, by simp, List.Pairwise.nil, by decide, by decide⟩⟩ (by simp only; omega)
    rw [h1, Option.bind_some]
    unfold wirelesslaw51_FriendBounds_j1
    simp only
    rw [lives_ok]
    rfl
end V
end Go.Proofs.Ytphigebccfoppaa
