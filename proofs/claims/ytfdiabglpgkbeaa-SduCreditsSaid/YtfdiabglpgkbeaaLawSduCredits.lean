/-
  SduCredits: from the readings of the arguments.
-/
import Derived.Test.YtfdiabglpgkbeaaLawQ
import Derived.Test.YtfdiabglpgkbeaaOpen
namespace Go.Proofs.Ytfdiabglpgkbeaa
namespace V
theorem gway {x : T_wirelesslaw33_Way} (h : G_T_wirelesslaw33_Way x) : GW x := by
  obtain ⟨_, _, _, h1, h2⟩ := h
  unfold reachBytes at h1
  refine ⟨by omega, fun s hs => ?_⟩
  obtain ⟨_, ⟨g1, g2⟩, g3⟩ := h2 s hs
  unfold reachBytes at g1
  unfold GInt at g3
  have e1 : IntKind.u8.min = 0 := by decide
  have e2 : IntKind.u8.max = 255 := by decide
  rw [e1, e2] at g3
  refine ⟨by omega, fun y hy => ?_, g3.1, g3.2⟩
  have := g2 y hy
  unfold GInt at this
  rw [e1, e2] at this
  exact this
end V
end Go.Proofs.Ytfdiabglpgkbeaa
