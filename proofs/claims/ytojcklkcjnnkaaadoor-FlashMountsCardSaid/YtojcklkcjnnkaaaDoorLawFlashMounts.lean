/-
  FlashMounts: from the readings of the arguments.
-/
import Derived.Test.YtojcklkcjnnkaaaDoorLawK
import Derived.Test.YtojcklkcjnnkaaaDoorOpen
namespace Go.Proofs.YtojcklkcjnnkaaaDoor
namespace V
theorem mounts_law (F : Nat) (hL : wirelesslaw39_lives F = some true) (f : T_api_Flash) (k : Int) (hb1 : ∀ x ∈ f.Banks.1, Byte x) (hb2 : ∀ x ∈ f.Banks.2, Byte x) (hF : 200000 < F) (hFF : F ≤ FF) : wirelesslaw39_FlashMounts F f k = some true := by
  unfold wirelesslaw39_FlashMounts
  rw [hL, Option.bind_some, if_neg (by decide), len_nat, len_nat]
  by_cases h1 : f.Banks.1.length ≤ 4096
  · rw [if_neg (df (by omega)), Option.bind_some]
    by_cases h2 : f.Banks.2.length ≤ 4096
    · rw [if_neg (df (by omega)), copy_id F f (by omega) (by omega), Option.bind_some]
      obtain ⟨s, e, e1, e2, hLs, he⟩ := mount_both F f hb1 hb2 hF hFF
      rw [e1, e2, Option.bind_some, Option.bind_some]
      simp only
      rw [if_neg (show ¬ (e != e) = true by simp)]
      have hil : s.Items.length ≤ 100000 := by
        rcases he with ⟨_, hm⟩ | he
        · have := hm.il
          omega
        · rw [he.2]; simp
      rw [same_refl F s hil hF, Option.bind_some, Option.bind_some, if_neg (by decide)]
      rcases he with ⟨rfl, hm⟩ | ⟨rfl, _⟩
      · rw [if_neg (by decide), get_eq F s k hLs hil hF, rget_eq F s k (fun x hx => by have := (hLs.ok x hx).vl; omega) hil hF, Option.bind_some, Option.bind_some, if_pos (by simp), if_pos (by simp)]
        unfold flash_Free flash_size flash_Free_j1 wirelesslaw39_FlashMounts_j1
        rw [Option.bind_some, Option.bind_some, len_nat, hm.fl]
        simp
      · rw [if_pos (by decide)]
    · rw [if_pos (dt (by omega))]
  · rw [if_pos (dt (by omega)), Option.bind_some, if_pos rfl]
theorem mounts_go (f : T_api_Flash) (k : Int) (hb1 : ∀ x ∈ f.Banks.1, Byte x) (hb2 : ∀ x ∈ f.Banks.2, Byte x) : wirelesslaw39_FlashMounts FF f k = some true := mounts_law FF lives_ok f k hb1 hb2 (by decide) (Nat.le_refl _)
theorem gbyte {x : Int} (h : GInt .u8 x) : Byte x := by
  have h1 : IntKind.u8.min = 0 := rfl
  have h2 : IntKind.u8.max = 255 := rfl
  unfold GInt at h
  rw [h1, h2] at h
  unfold Byte
  omega
theorem mounts_g (f : T_api_Flash) (k : Int) (h : G_T_api_Flash f) : wirelesslaw39_FlashMounts FF f k = some true := mounts_go f k (fun x hx => gbyte (h.1.2 x hx)) (fun x hx => gbyte (h.2.2 x hx))
end V
end Go.Proofs.YtojcklkcjnnkaaaDoor
