/-
  Frames: decoded as encoded, and back.
-/
import Derived.Test.YtpcckohcoajenaaLawA
namespace Go.Proofs.Ytpcckohcoajenaa
namespace V
theorem enc_zero {f : T_api_Frame} (hz : (enc f).2 = 0) : enc f = (bytesOf f, 0) ∧ f.CID ≠ 0 ∧ f.Payload.length ≤ 65531 := by
  unfold enc at hz ⊢
  split at hz
  · cases hz
  rename_i h1
  split at hz
  · cases hz
  rename_i h2
  rw [if_neg h1, if_neg h2]
  exact ⟨rfl, h1, by omega⟩
theorem enc_err {f : T_api_Frame} (hz : (enc f).2 ≠ 0) : (enc f).1 = [] := by
  unfold enc at hz ⊢
  split
  · rfl
  rename_i h1
  split
  · rfl
  rename_i h2
  rw [if_neg h1, if_neg h2] at hz
  exact absurd rfl hz
theorem uj (f : T_api_Frame) (hf : FOk f) (hc2 : f.Payload.length ≤ 65536) : wirelesslaw32_FragmentUnique_j1 FF f = some true := by
  unfold wirelesslaw32_FragmentUnique_j1
  rw [enc_ok hf, Option.bind_some]
  by_cases hz : (enc f).2 = 0
  · have hzb : ¬ ((enc f).2 != 0) = true := by simpa using hz
    rw [if_neg hzb]
    obtain ⟨he, h1, h2⟩ := enc_zero hz
    have e1 : (enc f).1 = bytesOf f := by rw [he]
    rw [e1, dec_ok (bytesOf_byte hf) (by rw [bytesOf_len]; omega), Option.bind_some, dec_bytesOf hf h1 h2]
    have e2 : (((f, (0 : Int)).2 == 0) && ((f, (0 : Int)).1.CID == f.CID)) = true := by simp
    rw [if_pos e2, same_refl, Option.bind_some, Option.bind_some]
    have e3 : (true && (len (bytesOf f) == w64 (len f.Payload + 4))) = true := by
      rw [len_nat, len_nat, bytesOf_len, w64_id (by omega) (by omega)]
      simp
    rw [if_pos e3, example_ok]
    rfl
  · have hzb : ((enc f).2 != 0) = true := by simpa using hz
    rw [if_pos hzb, enc_err hz]
    have e0 : (len ([] : List Int) == 0) = true := rfl
    rw [if_pos e0, example_ok]
    rfl
theorem unique_law (b : List Int) (f : T_api_Frame) (hb : ∀ x ∈ b, Byte x) (hf : FOk f) : wirelesslaw32_FragmentUnique FF b f = some true := by
  unfold wirelesslaw32_FragmentUnique
  by_cases hc : (decide (len b > 65536) || decide (len f.Payload > 65536)) = true
  · rw [if_pos hc, example_ok]; rfl
  rw [if_neg hc]
  have hc1 : ¬ len b > 65536 := fun h => hc (by rw [dt h]; rfl)
  have hc2 : ¬ len f.Payload > 65536 := fun h => hc (by rw [dt h, Bool.or_true])
  rw [len_nat] at hc1 hc2
  have hj := uj f hf (by omega)
  rw [dec_ok hb (by omega), Option.bind_some]
  by_cases hz : (dec b).2 = 0
  · obtain ⟨h1, h2⟩ := dec_zero hb hz
    have e1 : ((dec b).2 == 0) = true := by simpa using hz
    rw [if_pos e1, enc_ok h1, Option.bind_some, h2]
    have e2 : ¬ ((b, (0 : Int)).2 != 0) = true := by simp
    rw [if_neg e2, same_refl, Option.bind_some, Option.bind_some]
    have e3 : ¬ (!true) = true := by decide
    rw [if_neg e3]
    exact hj
  · have e1 : ¬ ((dec b).2 == 0) = true := by simpa using hz
    rw [if_neg e1]
    exact hj
end V
end Go.Proofs.Ytpcckohcoajenaa
