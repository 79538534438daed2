/-
  What the small functions compute.
-/
import Derived.Test.YtfdiabglpgkbeaaLawA
namespace Go.Proofs.Ytfdiabglpgkbeaa
namespace V
/-- An end as small as the laws ask (more than 'light' gives). -/
structure Sm (c : T_api_Channel) : Prop where
  out : c.Out.length ≤ 1000
  each : ∀ s ∈ c.Out, s.length ≤ 1000000
  inn : c.In.length ≤ 1000000
theorem Sm.gch {c : T_api_Channel} (h : Sm c) : GCh c := ⟨by have := h.out; omega, by have := h.inn; omega, fun s hs => by have := h.each s hs; omega⟩
theorem cpy_full {α : Type} (l m : List α) (h : l.length = m.length) : cpy l m = m := by
  unfold cpy
  rw [h, List.take_length, ← h, List.drop_length, List.append_nil]
theorem take_succ' {α : Type} {l : List α} {i : Nat} {x : α} (h : l[i]? = some x) : l.take i ++ [x] = l.take (i + 1) := by
  rw [List.take_add_one, h]; rfl
theorem join_ok (F : Nat) (l : List (List Int)) (hF : l.length < F) (hl : l.length < 1000000) (hs : l.flatten.length ≤ 140737488355328) : octets_Join F l = some l.flatten := by
  unfold octets_Join octets_Join_j1
  have := iter_count (body := fun s : List Int × Int => octets_Join_l1 F l s.1 s.2) (fun i => ((l.take i).flatten, (i : Int))) l.length l.flatten (fun i hi => by
    have hx : l[i]? = some l[i] := List.getElem?_eq_getElem hi
    have hfl : (l.take i).flatten ++ l[i] = (l.take (i + 1)).flatten := by rw [← take_succ' hx, List.flatten_append, List.flatten_singleton]
    have hle : (l.take (i + 1)).flatten.length ≤ l.flatten.length := by
      have h1 := congrArg (fun z => (List.flatten z).length) (List.take_append_drop (i + 1) l)
      simp only [List.flatten_append, List.length_append] at h1
      omega
    show octets_Join_l1 F l _ _ = _
    unfold octets_Join_l1
    rw [if_pos (by simp [len]; omega)]
    simp only [idx_nat, hx, Option.bind_some]
    rw [app_small (by rw [← List.length_append, hfl]; omega) (by omega)]
    simp only [Option.bind_some, hfl, w64_nat i (by omega)]) (by
    show octets_Join_l1 F l _ _ = _
    unfold octets_Join_l1
    rw [if_neg (by simp [len])]
    simp) F 0 (by omega) (by omega)
  rw [List.take_zero, List.flatten_nil, show ((0 : Nat) : Int) = 0 from rfl] at this
  rw [this]
  rfl
theorem copied_ok (F : Nat) (c : T_api_Channel) (hF : 2000 < F) (h : Sm c) : sdu_copied F c = some c := by
  obtain ⟨h1, h2, h3⟩ := h
  unfold sdu_copied sdu_copied_j1
  have := iter_count (body := fun s : List (List Int) × Int => sdu_copied_l1 F c s.1 s.2) (fun i => (c.Out.take i, (i : Int))) c.Out.length c.Out (fun i hi => by
    have hx : c.Out[i]? = some c.Out[i] := List.getElem?_eq_getElem hi
    have hm := h2 _ (List.getElem_mem hi)
    show sdu_copied_l1 F c _ _ = _
    unfold sdu_copied_l1
    rw [if_pos (by simp [len]; omega)]
    simp only [idx_nat, hx, Option.bind_some, len_nat]
    rw [mk_small (by omega) (by omega)]
    simp only [Option.bind_some]
    rw [cpy_full _ _ (by simp), app_small (by simp; omega) (by omega)]
    simp only [Option.bind_some, take_succ' hx, w64_nat i (by omega)]) (by
    show sdu_copied_l1 F c _ _ = _
    unfold sdu_copied_l1
    rw [if_neg (by simp [len])]
    simp) F 0 (by omega) (by omega)
  rw [List.take_zero, show ((0 : Nat) : Int) = 0 from rfl] at this
  rw [this]
  simp only [Option.bind_some]
  rw [join_ok F [c.In] (by simp; omega) (by simp) (by simp; omega)]
  simp
theorem same_ok (F : Nat) (a : List Int) : wirelessref23_Same F a a = some true := by simp [wirelessref23_Same]
theorem lists_ok (F : Nat) (a : List (List Int)) (hF : a.length < F) (hl : a.length < 1000000000) : wirelessref33_SameLists F a a = some true := by
  unfold wirelessref33_SameLists wirelessref33_SameLists_j1
  rw [if_neg (by simp)]
  have := iter_count (body := fun s => wirelessref33_SameLists_l1 F a a s) (fun i => (i : Int)) a.length (.inl ()) (fun i hi => by
    have hx : a[i]? = some a[i] := List.getElem?_eq_getElem hi
    show wirelessref33_SameLists_l1 F a a _ = _
    unfold wirelessref33_SameLists_l1 wirelessref33_SameLists_j2
    rw [if_pos (by simp [len]; omega)]
    simp only [idx_nat, hx, Option.bind_some, same_ok, w64_nat i (by omega)]
    simp) (by
    show wirelessref33_SameLists_l1 F a a _ = _
    unfold wirelessref33_SameLists_l1
    rw [if_neg (by simp [len])]) F 0 (by omega) (by omega)
  rw [show ((0 : Nat) : Int) = 0 from rfl] at this
  rw [this]
  rfl
theorem w64_small {x : Int} (h1 : -1000000000000000000 ≤ x) (h2 : x ≤ 1000000000000000000) : w64 x = x := w64_id (by omega) (by omega)
/-- What an end of which Check finds nothing is like. -/
structure Ok (c : T_api_Channel) : Prop where
  ids : ¬ (c.Local < 64 ∨ c.Local > 127 ∨ c.Remote < 64 ∨ c.Remote > 127)
  psm : c.PSM ≠ 0
  mtu : 23 ≤ c.MTU ∧ c.MTU ≤ 4096
  mps : 23 ≤ c.MPS ∧ c.MPS ≤ 4096
  pmtu : 23 ≤ c.PeerMTU ∧ c.PeerMTU ≤ 4096
  pmps : 23 ≤ c.PeerMPS ∧ c.PeerMPS ≤ 4096
  tx : 0 ≤ c.TxCredits ∧ c.TxCredits ≤ 65535
  rx : 0 ≤ c.RxCredits ∧ c.RxCredits ≤ 65535
  given : 0 ≤ c.Given ∧ c.Given ≤ 65535
  few : c.Out.length ≤ 64
  short : ∀ s ∈ c.Out, (s.length : Int) ≤ c.PeerMTU
  sent : 0 ≤ c.Sent ∧ c.Sent ≤ lastOf c
  want : -1 ≤ c.Want ∧ c.Want ≤ c.MTU
  inn : (c.Want = -1 → c.In.length = 0) ∧ (c.Want ≥ 0 → (c.In.length : Int) < c.Want)
theorem chk_ok {c : T_api_Channel} : chk c = 0 ↔ Ok c := by
  unfold chk posOf sizeOk countOk
  constructor
  · intro h
    repeat' split at h
    all_goals first | (exact absurd h (by decide)) | skip
    rename_i a1 a2 a3 a4 a5 a6
    simp only [Bool.and_eq_false_iff, decide_eq_false_iff_not, List.any_eq_true, decide_eq_true_eq, not_exists, not_and] at a3 a5
    exact ⟨a1, a2, by omega, by omega, by omega, by omega, by omega, by omega, by omega, by omega, fun s hs => by have := a5 s hs; omega, by omega, by omega, by omega⟩
  · rintro ⟨a1, a2, b1, b2, b3, b4, b5, b6, b7, a4, a5, c1, c2, c3⟩
    rw [if_neg a1, if_neg a2, if_neg (by simp; omega), if_neg (by omega), if_neg (by
      simp only [List.any_eq_true, decide_eq_true_eq, not_exists, not_and]
      intro s hs
      have := a5 s hs
      omega), if_neg (by omega)]
end V
end Go.Proofs.Ytfdiabglpgkbeaa
