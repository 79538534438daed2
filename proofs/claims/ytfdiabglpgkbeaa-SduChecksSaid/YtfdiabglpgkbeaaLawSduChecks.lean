/-
  SduChecks: the law.
-/
import Derived.Test.YtfdiabglpgkbeaaLawA
import Derived.Test.YtfdiabglpgkbeaaOpen
namespace Go.Proofs.Ytfdiabglpgkbeaa
namespace V
theorem light_ok (F : Nat) (c : T_api_Channel) (hF : 200 < F) (h : GCh c) : ∃ b, wirelesslaw33_light F c = some b := by
  unfold wirelesslaw33_light
  obtain ⟨o, h1, _⟩ := iter_by (body := fun s : Int × Int => wirelesslaw33_light_l13 F c s.1 s.2) (fun s => 0 ≤ s.2 ∧ s.2 ≤ 100) (fun _ => True) (fun s => (100 - s.2).toNat) (fun s hs => by
    obtain ⟨x, i⟩ := s
    obtain ⟨h0, h100⟩ := hs
    simp only at h0 h100 ⊢
    unfold wirelesslaw33_light_l13
    by_cases hc : i < len c.Out ∧ i < 100
    · obtain ⟨y, hy, _⟩ := idx_lt h0 hc.1
      rw [if_pos (by simpa using hc), hy]
      simp only [Option.bind_some]
      by_cases hy2 : decide (len y > 65536) = true
      · exact .inr ⟨_, by rw [if_pos hy2], trivial⟩
      · refine .inl ⟨_, by rw [if_neg hy2], ?_⟩
        have : w64 (i + 1) = i + 1 := by rw [w64_id] <;> omega
        simp only [this]
        omega
    · exact .inr ⟨_, by rw [if_neg (by simpa using hc)], trivial⟩) F (len c.In, 0) (by simp) (by simp; omega)
  rw [h1]
  cases o with
  | inl u => exact ⟨_, rfl⟩
  | inr u => exact ⟨_, rfl⟩
theorem gch {c : T_api_Channel} (h : G_T_api_Channel c) : GCh c := by
  obtain ⟨_, _, _, _, _, _, _, _, _, _, h1, _, h2, _⟩ := h
  have := h1.1
  have := h2.1
  refine ⟨?_, ?_, fun s hs => ?_⟩
  · unfold reachBytes at *; omega
  · unfold reachBytes at *; omega
  · have := (h1.2 s hs).1
    unfold reachBytes at *; omega
theorem checks_law (c : T_api_Channel) (h : GCh c) : wirelesslaw33_SduChecks FF c = some true := by
  unfold wirelesslaw33_SduChecks wirelesslaw33_SduChecks_j1
  obtain ⟨b, hb⟩ := light_ok FF c (by decide) h
  rw [hb, ex_holds, sdu_check FF c (by decide) h, ref_check FF c (by decide) h]
  cases b <;> simp
end V
end Go.Proofs.Ytfdiabglpgkbeaa
