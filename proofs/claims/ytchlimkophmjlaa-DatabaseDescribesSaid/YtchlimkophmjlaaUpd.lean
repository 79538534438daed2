/-
  An element of a row of the call's own is written.
-/
import Derived.Test.YtchlimkophmjlaaNil
namespace Go.Proofs.Ytchlimkophmjlaa
namespace V
section
variable {P : Program} {N n0 : Nat} {fx : Fx} {its its' : List Item} {κ : List Conc} {w : World} {tt : TT} {env : Env'}
theorem kl_any : (kl its).any Item.ow = false := by
  rw [List.any_eq_false]
  intro it hit
  rw [kl_ow it hit]
  exact Bool.false_ne_true
theorem e_upd {α : Type} {sz : Nat} {E : TypeId} {R : RT α} [GRep R] {l l' : List α} {e : α} (htt : TTOk P tt) {t : TypeId} {ps : String} {af : Array Edge} {g : Option (Nat × Bool)} {ty : TypeId} {x y : Operand} {i j : Nat} {iv : Int} {v : SV} {cs0 cs : List Cell}
    (hx : evS env x = some (vp j 0)) (hj : its[j]? = some (.elt (some (i, iv)) true cs0)) (hi : its[i]? = some (.own sz E R l)) (hki : (kl its)[i]? = some (.own sz E R l)) (hy : evS env y = some v) (hv : v.cells its = some cs) (hc : Clo its R cs e)
    (hl : (Nat.beq cs0.length sz && Nat.beq cs.length sz) = true) (hT : (match lkT ty tt with
      | some ti => Nat.beq ti.size sz
      | none => false) = true) (hu : upd l iv e = some l') :
    Eff P N n0 fx env its ⟨none, .store ty x y, t, ps, af, g⟩ none ((kl its).set i (.own sz E R l')) := fun κ w S a ha => by
  simp only [Bool.and_eq_true, Nat.beq_eq] at hl
  obtain ⟨hl1, hl2⟩ := hl
  split at hT
  · rename_i ti ht
    simp only [Nat.beq_eq] at hT
    obtain ⟨c, hcj, hokj⟩ := S.conc hj
    cases c with
    | a ad =>
      obtain ⟨_, _, A, n, c, hci, had, h0, h1⟩ := hokj
      obtain ⟨c', hci', hoki⟩ := S.conc hi
      rw [hci] at hci'
      injection hci' with hci'
      subst hci'
      obtain ⟨hn, ho⟩ := hoki
      rcases own_form ho with ⟨hA, _⟩ | ⟨b, cur, hA, _⟩
      · cases hA
      · injection hA with hA
        subst hA
        have hx' := evS_den (κ := κ) hx
        simp only [SV.den, Cell.den, hcj, had, hl1] at hx'
        have hx2 : ev (denE κ env) x = some (.pointer (some ⟨b, iv.toNat * sz, none⟩)) := by
          rw [hx']
          simp [add_lit]
        have hL : (Lof its κ)[i]? = some (some b) := Lof_get hi hci
        have hrun := rs_storeEl (P := P) (N := N) (t := t) (ps := ps) (af := af) (g := g) (fun w => by have := (htt.get ht).size w; rw [hT] at this; exact this) hx2 (evS_den hy) (cells_den S.kno hv) (by simpa using hl2) ho (hc S) hu hL S.ctx
        obtain ⟨w', hr, hst⟩ := hrun a ha
        refine .inr (.inl ⟨w', hr, ⟨[], ⟨fun z hz => (by cases hz), ?_⟩⟩⟩)
        rw [List.append_nil]
        have hlen : l'.length = l.length := by obtain ⟨_, _, rfl⟩ := upd_some hu; simp
        have hst' : OwnTurned sz E R fx.U0 fx.X0 fx.w0 (Lof (kl its) κ) w (some ⟨b, 0, none⟩) c l' w' := by rw [Lof_kl]; exact hst
        exact ownTurned_st S.kill kl_any hki hci hn hlen hst'
    | _ => exact hokj.elim
  · cases hT
end
end V
end Go.Proofs.Ytchlimkophmjlaa
