/-
  The run as a whole: the call of livesWorld answers true, whatever world it is made in, and turns nothing of it.
-/
import Derived.Test.YtladkmnfmpojiaaGreatDoorFb
import Derived.Test.YtladkmnfmpojiaaGreatDoorW0
import Derived.Test.YtladkmnfmpojiaaGreatDoorS20
namespace Go.Proofs.YtladkmnfmpojiaaGreatDoor
namespace I
theorem own_tag {w : World} (g : V.Globs (fun _ => False) [] w) : Own Tryz.prog w 43 tagG := own_of (tw := V.mac_Tag 1125899906842624) Tryz.func43 (by kernel_rfl) (by kernel_rfl) (fun k l r h => V.ok_mac_Tag 1125899906842624 k l r h) g
theorem gd_of {w : World} {g : Nat} {k : IntKind} {z : R} {l : List Nat} {vs : List Value} (hz : z.ok) (hl : z.l = l.map (A.i k)) (hv : vs = l.map fun (m : Nat) => Value.int k (m : Int)) (hk : ∀ (n : Nat), n ∈ l → n < md k ∧ nng k n = true) (hne : vs ≠ []) (h : ∀ j v, vs[j]? = some v → w.cell? ⟨g, j, none⟩ = some v) : Gd w g z := by
  refine ⟨hz, vs, hne, ?_, h⟩
  rw [hl, hv]
  clear hz hl hv hne h
  induction l with
  | nil => exact .nil
  | cons n l ih =>
    refine .cons ⟨(hk n List.mem_cons_self).1, ?_⟩ (ih fun m hm => hk m (List.mem_cons_of_mem _ hm))
    rw [nng_iff (hk n List.mem_cons_self).2]
theorem gd {w : World} (g : V.Globs (fun _ => False) [] w) : Gd w 0 gz0 ∧ Gd w 1 gz1 ∧ Gd w 2 gz2 := by
  have h0 := g _ (List.mem_cons_self)
  have h1 := g _ (List.mem_cons_of_mem _ List.mem_cons_self)
  have h2 := g _ (List.mem_cons_of_mem _ (List.mem_cons_of_mem _ List.mem_cons_self))
  refine ⟨gd_of (k := .u64) (l := [0, 0, 3, 1, 0]) ?_ (by rfl) rfl (by decide) (by simp) h0.2.2.2,
    gd_of (k := .u32) (l := [0, 1788928, 3577856, 3003392, 7155712, 7764992, 6006784, 4252672, 14311424, 12659712, 15529984, 16233472, 12013568, 11279360, 8505344, 10126336]) ?_ (by rfl) rfl (by decide) (by simp) h1.2.2.2,
    gd_of (k := .i64) (l := [1, 1, 3, 1, 3, 1, 2, 3, 1, 2, 4, 4, 5, 1, 4, 1, 1, 1, 1, 1, 4, 2, 3, 1, 2]) ?_ (by rfl) rfl (by decide) (by simp) h2.2.2.2⟩
  · exact (rlen_ok (n := 5) (by rfl)).1
  · exact (rlen_ok (n := 16) (by rfl)).1
  · exact (rlen_ok (n := 25) (by rfl)).1
theorem lives_calls {w : World} (g : V.Globs (fun _ => False) [] w) : Calls Tryz.prog 4 #[] w fun e w' => e = .returned (.bool true) ∧ V.Step [] w w' := by
  obtain ⟨φ, H⟩ := start_hr (gd g).1 (gd g).2.1 (gd g).2.2
  have hft := ft_ok (own_tag g)
  have r0 : Rn Tryz.prog tb w 4 s0 := Rn.start hft (show T.get (pth 4) tb.ft = some (.fn Tryz.f4) by kernel_rfl) H rfl
  have r1 := r0.next (q := 30000) follows tt_ok hft s1.2
  have r2 := r1.next (q := 30000) follows tt_ok hft s2.2
  have r3 := r2.next (q := 30000) follows tt_ok hft s3.2
  have r4 := r3.next (q := 30000) follows tt_ok hft s4.2
  have r5 := r4.next (q := 30000) follows tt_ok hft s5.2
  have r6 := r5.next (q := 30000) follows tt_ok hft s6.2
  have r7 := r6.next (q := 30000) follows tt_ok hft s7.2
  have r8 := r7.next (q := 30000) follows tt_ok hft s8.2
  have r9 := r8.next (q := 30000) follows tt_ok hft s9.2
  have r10 := r9.next (q := 30000) follows tt_ok hft s10.2
  have r11 := r10.next (q := 30000) follows tt_ok hft s11.2
  have r12 := r11.next (q := 30000) follows tt_ok hft s12.2
  have r13 := r12.next (q := 30000) follows tt_ok hft s13.2
  have r14 := r13.next (q := 30000) follows tt_ok hft s14.2
  have r15 := r14.next (q := 30000) follows tt_ok hft s15.2
  have r16 := r15.next (q := 30000) follows tt_ok hft s16.2
  have r17 := r16.next (q := 30000) follows tt_ok hft s17.2
  have r18 := r17.next (q := 30000) follows tt_ok hft s18.2
  have r19 := r18.next (q := 30000) follows tt_ok hft s19.2
  have r20 := r19.next (q := 30000) follows tt_ok hft s20.2
  exact r20.calls (by kernel_rfl)
end I
namespace V
theorem ok_lives : Spec Tryz.prog 4 [] [] (vb true) [] := fun U0 κ w gl S => by
  have hk : κ = [] := List.length_eq_zero_iff.1 S.len
  subst hk
  refine (I.lives_calls (w := w) fun p hp => ?_).mono fun e w' ⟨he, hs⟩ => ?_
  · obtain ⟨h0, _, _, h3⟩ := gl p hp
    exact ⟨h0, fun h => h, by simp, h3⟩
  · subst he
    exact ⟨[], rfl, rfl, rfl, Nat.le_refl _, rfl, rfl, ⟨hs, S.ctx.u0, fun b hb => by simp [Lof] at hb, fun i j b _ h => by simp [Lof] at h⟩, fun i it c h => by simp at h⟩
end V
end Go.Proofs.YtladkmnfmpojiaaGreatDoor
