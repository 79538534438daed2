/-
  BondsForms: the law.
-/
import Derived.Test.YtbdhonofhlpdoaaDoorLawD
namespace Go.Proofs.YtbdhonofhlpdoaaDoor
namespace V
theorem lives_ok : wirelesslaw40_lives FF = some true := by kernel_rfl
theorem forms_law (b : T_api_Bond) (s : List Int) (hr : RB b) (hb : ∀ x ∈ s, Byte x) : wirelesslaw40_BondsForms FF b s = some true := by
  unfold wirelesslaw40_BondsForms
  rw [lives_ok, Option.bind_some, if_neg (by decide)]
  have hF : 2000 < FF := by decide
  by_cases h1 : b.Subs.length > 64 ∨ s.length > 4096
  · rw [if_pos (by simp [len_nat]; omega)]
  rw [if_neg (by simp [len_nat]; omega)]
  obtain ⟨x, k1, k2⟩ := enc_both FF b hF hr
  obtain ⟨r, d1, d2, d3⟩ := dec_both FF s hF hb (by omega)
  obtain ⟨e, c1, _⟩ := check_ok FF b hF hr.bits
  rw [copy_ok FF [b] hF (by simp) (by simp; omega), Option.bind_some, show idx [b] 0 = some b from rfl, Option.bind_some, k1, Option.bind_some, k2, Option.bind_some, app_cat (by simp; omega), Option.bind_some, List.nil_append, d1, Option.bind_some, d2, Option.bind_some, check_same FF b hr.bits, c1, Option.bind_some, Option.bind_some, if_pos (by simp), if_pos (by simp), same_bond FF r.1 hF (by omega)]
  rfl
end V
end Go.Proofs.YtbdhonofhlpdoaaDoor
