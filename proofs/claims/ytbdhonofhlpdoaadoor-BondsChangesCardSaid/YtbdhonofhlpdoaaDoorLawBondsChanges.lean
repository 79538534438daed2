/-
  BondsChanges: from the readings of the arguments.
-/
import Derived.Test.YtbdhonofhlpdoaaDoorLawC
import Derived.Test.YtbdhonofhlpdoaaDoorOpen
namespace Go.Proofs.YtbdhonofhlpdoaaDoor
namespace V
theorem gu64 {x : Int} (h : GInt .u64 x) : U64 x := by
  have h1 : IntKind.u64.min = 0 := rfl
  have h2 : IntKind.u64.max = 18446744073709551615 := rfl
  unfold GInt at h
  rw [h1, h2] at h
  unfold U64
  omega
theorem gadr {a : T_api_Address} (h : G_T_api_Address a) : U64 a.Bits := by
  obtain ⟨_, h1⟩ := h
  exact gu64 h1
theorem gbits {b : T_api_Bond} (h : G_T_api_Bond b) : U64 b.Peer.Address.Bits := by
  obtain ⟨⟨⟨_, h1⟩, _⟩, _⟩ := h
  exact gu64 h1
theorem girk {b : T_api_Bond} (h : G_T_api_Bond b) : U64 b.Peer.IRK := by
  obtain ⟨⟨_, h1⟩, _⟩ := h
  exact gu64 h1
theorem gblist {l : List T_api_Bond} (h : GAll G_T_api_Bond l) : (∀ b ∈ l, U64 b.Peer.Address.Bits ∧ U64 b.Peer.IRK) ∧ l.length ≤ 140737488355328 := ⟨fun b hb => ⟨gbits (h.2 b hb), girk (h.2 b hb)⟩, by
  have h1 := h.1
  have h2 : reachBytes = 140737488351232 := rfl
  omega⟩
theorem changes_go (l : List T_api_Bond) (b : T_api_Bond) (a : T_api_Address) (i : Int) (h : (∀ b ∈ l, U64 b.Peer.Address.Bits ∧ U64 b.Peer.IRK) ∧ l.length ≤ 140737488355328) (hb : U64 b.Peer.Address.Bits) (ha : U64 a.Bits) : wirelesslaw40_BondsChanges FF l b a i = some true := changes_law l b a i h.1 h.2 hb ha
end V
end Go.Proofs.YtbdhonofhlpdoaaDoor
