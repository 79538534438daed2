/-
  An operation of a statement whose order is open, which its guard leaves out, as it comes up.
-/
import Derived.Test.YtojcklkcjnnkaaaDoorTsub
namespace Go.Proofs.YtojcklkcjnnkaaaDoor
namespace V
section
variable {P : Program} {ops : Array Oper} {Kn : Act → World → Prop} {fuel N n0 : Nat} {bs bs' : List Bool} {fx : Fx} {env : Env'} {its itsK : List Item} {κ1 : List Conc}
theorem SW.skip {ks : List Bool} {i d j s : Nat} {b : Bool} {op : Op} {t : TypeId} {ps : String} {af : Array Edge} (D : DK ks itsK κ1) (hi : ops[i]? = some ⟨some d, op, t, ps, af, some (j, b)⟩) (hj : (ops[j]?).bind (·.dst) = some s) (hg : lkE s env = some (.u []) ∨ ∃ x, lkE s env = some (vb x) ∧ x = !b) (hN : Nat.blt d N = true) (hb : bs.set i true = bs') (hK : mask ks its = itsK)
    (hk : SD P ops Kn ks itsK κ1 fuel bs' N n0 fx ((d, .u []) :: env) its) : SW P ops Kn ks itsK κ1 fuel bs N n0 fx env its i := fun κx w S a ha => by
  have hw : Region.wanted ⟨some d, op, t, ps, af, some (j, b)⟩ (yielded ops a.tmps) = false := by
    rcases hg with hs | ⟨x, hs, hx⟩
    · have hl := lkE_den (κ := κ1 ++ κx) hs
      have : yielded ops a.tmps j = none := by
        unfold yielded
        rw [hj]
        simp [ha.get s _ hl, SV.den]
      simp [Region.wanted, this]
    · have hl := lkE_den (κ := κ1 ++ κx) hs
      simp only [SV.den, Cell.den] at hl
      simp only [Region.wanted, yielded_of hj hl ha, hx]
      cases b <;> rfl
  unfold wpOp
  simp only [hi, hw]
  refine ⟨S.knoK hK D.len D.sc, ?_⟩
  have h3 := hk κx w (S.env (by
    have := S.sce
    unfold scE at this ⊢
    simp only [List.all_cons, this, Bool.and_true]
    rfl))
  have h4 := h3 _ (ha.put hN)
  rw [← hb] at h4
  simpa [SV.den, undef] using h4
end
end V
end Go.Proofs.YtojcklkcjnnkaaaDoor
