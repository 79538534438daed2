/-
  Build: the plain law.
-/
import Derived.Test.YtchlimkophmjlaaLawH
import Derived.Test.YtchlimkophmjlaaLawC
namespace Go.Proofs.Ytchlimkophmjlaa
namespace V
theorem bres_len (l : List T_api_Service) (first : Int) (r : Int × Int) (hl : ct l ≤ 3300) : (bres l first r).1.length ≤ 3300 := by
  unfold bres
  generalize decide (w64 (w64 (w64 first + r.1) - 1) > 65535) = b
  generalize decide (r.1 > 1000) = c
  generalize (r.2 != 0) = d
  generalize (first == 0) = e
  have := bld_len first l
  cases b <;> cases c <;> cases d <;> cases e <;> simp <;> omega
theorem builds_law (l : List T_api_Service) (first : Int) (ho : LOk l) (h0 : 0 ≤ first) (h1 : first < 65536) : wirelesslaw43_DatabaseBuilds FF l first = some true := by
  have hF : FF = 1125899906842624 := rfl
  unfold wirelesslaw43_DatabaseBuilds
  obtain ⟨b, g1, g2⟩ := small_ok FF l ho (by omega)
  rw [g1, Option.bind_some, example_ok]
  cases b with
  | false => rfl
  | true =>
    obtain ⟨g3, g4⟩ := g2 rfl
    have hct := ct_le l g3
    obtain ⟨r, _, h2, h3⟩ := build_both FF first h0 h1 l ho g4 (by omega) (by omega)
    have hl := bres_len l first r hct
    rw [if_neg (by decide), h2, h3, Option.bind_some, Option.bind_some, if_pos (by simp), sameDB FF _ (by omega) (by omega)]
    rfl
end V
end Go.Proofs.Ytchlimkophmjlaa
