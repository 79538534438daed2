/-
  BondsRecent: from the readings of the arguments.
-/
import Derived.Test.YtbdhonofhlpdoaaDoorLawR
import Derived.Test.YtbdhonofhlpdoaaDoorOpen
namespace Go.Proofs.YtbdhonofhlpdoaaDoor
namespace V
theorem gbits {b : T_api_Bond} (h : G_T_api_Bond b) : U64 b.Peer.Address.Bits := by
  obtain ⟨⟨⟨_, h1⟩, _⟩, _⟩ := h
  have k1 : IntKind.u64.min = 0 := rfl
  have k2 : IntKind.u64.max = 18446744073709551615 := rfl
  unfold GInt at h1
  rw [k1, k2] at h1
  unfold U64
  omega
theorem gblist {l : List T_api_Bond} (h : GAll G_T_api_Bond l) : (∀ b ∈ l, U64 b.Peer.Address.Bits) ∧ l.length ≤ 140737488355328 := ⟨fun b hb => gbits (h.2 b hb), by
  have h1 := h.1
  have h2 : reachBytes = 140737488351232 := rfl
  omega⟩
theorem recent_go (l : List T_api_Bond) (b c : T_api_Bond) (i : Int) (h : (∀ b ∈ l, U64 b.Peer.Address.Bits) ∧ l.length ≤ 140737488355328) (hb : U64 b.Peer.Address.Bits) (hc : U64 c.Peer.Address.Bits) : wirelesslaw40_BondsRecent FF l b c i = some true := recent_law l b c i h.1 h.2 hb hc
end V
end Go.Proofs.YtbdhonofhlpdoaaDoor
