/-
  BondsChanges: the row.
-/
import Derived.Test.YtbdhonofhlpdoaaDoorOpen
import Derived.Test.YtbdhonofhlpdoaaDoorW2
import Derived.Test.YtbdhonofhlpdoaaDoorLawBondsChanges
import Derived.Test.YtbdhonofhlpdoaaDoorCards
import Derived.Test.YtbdhonofhlpdoaaDoorTie
import Derived.LaidLaws
import Derived.LaidHandle
import Derived.Lib.LaidTab
import Derived.SevenTiedAt
import Derived.JoinedOf
import Derived.Carry
namespace Go.Proofs.YtbdhonofhlpdoaaDoor
open Go.ChangeShapes Go.WideShapes Go.ChangeAt Go.RowKit Go.Deep V
/-- A world that meets the condition. -/
noncomputable def V.laidWorld (os : Os) : World :=
  let w0 := World.holding Tryd.prog os ⟨#[], #[], []⟩
  { w0 with heap := (w0.heap).modify 0 fun
      | .cells _ t frozen => .cells #[.int .u64 0, .int .u64 0, .int .u64 3, .int .u64 1, .int .u64 0] t frozen
      | o => o }
theorem V.laidWorld_met (os : Os) (args : Array Value) : laidMetH Tryd.prog Rows.bondsChangesRow.laid ((V.laidWorld os).forCall (fun _ _ => 0) ⟨#[], args, []⟩).memory :=
  laidMetH_of_parts (laidMet_of_run' 8 (by kernel_rfl) (by kernel_rfl)) (by kernel_rfl)
theorem V.tab_globs {W : World} {g : Nat} {k : IntKind} {zs : List Int} (hc : ∀ i, i < zs.length → W.cell? ⟨g, i, none⟩ = some (.int k (zs.getD i 0))) (j : Nat) (v : Value) (hj : (zs.map (Value.int k))[j]? = some v) : W.cell? ⟨g, j, none⟩ = some v := by
  have hl := (List.getElem?_eq_some_iff.1 hj).1
  rw [List.length_map] at hl
  rw [hc j hl]
  rw [List.getElem?_map, List.getElem?_eq_getElem hl] at hj
  injection hj with hj
  rw [← hj, List.getD_eq_getElem?_getD, List.getElem?_eq_getElem hl]
  rfl
theorem V.laid_globs {W : World} (h : laidMetH Tryd.prog Rows.bondsChangesRow.laid W) : Globs (fun _ => False) [] W := fun p hp => by
  have h0 : laidMet Tryd.prog [("wireless/address.prefixes", Lib.tabData .u64 [0, 0, 3, 1, 0])] W := h
  simp only [globs, List.mem_cons, List.not_mem_nil, or_false] at hp
  rcases hp with rfl
  · exact ⟨by simp, fun h => h, by simp, V.tab_globs fun i hi => (Lib.tabIs_of_head (g := 0) (t := 126) (e := 22) (n := 5) (by kernel_rfl) (by kernel_rfl) Tryd.underlying126 Tryd.underlying22 (by kernel_rfl) (by kernel_rfl) h0).cell (by kernel_rfl) i hi⟩
set_option maxRecDepth 100000 in
set_option maxHeartbeats 1000000 in
theorem V.bondsChanges_lifted (os : Os) (started : os.Started) (H : Type) (enc : TypeId × Value → H) :
    ReturnsInHanded {} Tryd.checked os 4 .any (fun w args => (Rows.bondsChangesSpec.pre enc Tryd.prog Tryd.f4 Rows.bondsChangesRow.domain false w args ∧ laidMetH Tryd.prog Rows.bondsChangesRow.laid w) ∧ sizedMet enc Tryd.prog Tryd.f4 (OpenSpec.ofChange Rows.bondsChangesSpec) false w args) (Rows.bondsChangesSpec.post enc Tryd.prog Tryd.f4 false true false false) := by
  refine returnsInHanded_of_change_and (C := Tryd.checked) (X := fun w _ => laidMetH Tryd.prog Rows.bondsChangesRow.laid w) (fun _ _ _ hh h => h.of_heap hh) V.own started (by kernel_rfl) Tryd.func4
    (ChangeSpec.witness_at (enc := enc) (C := Tryd.checked) (os := os) (X := fun w _ => laidMetH Tryd.prog Rows.bondsChangesRow.laid w) false (V.laidWorld os) #[.slice none 0 0, .agg #[.int .i64 0, .int .u64 0, .int .u64 0, .int .u64 0, .int .u64 0, .bool false, .int .u64 0, .bool false, .slice none 0 0, .int .i64 0], .agg #[.int .i64 0, .int .u64 0], .int .i64 0] 8 rfl (by kernel_rfl) (by kernel_rfl) (by kernel_rfl) (by kernel_rfl) (by kernel_rfl) (V.laidWorld_met os _)) ?_
  intro W base args ds gs before hval0 hW _ hsz hL _
  have hval : ∀ (j : Nat) t v, Tryd.f4.params[j]? = some t → args[j]? = some v → Value.okWide Tryd.prog W .any base t v := hval0
  have hW' : DataW.Whole enc Tryd.prog Tryd.f4.params.toList Rows.bondsChangesSpec.vars false W args.toList ds gs before := hW
  obtain ⟨p, q, hA0, hV, rfl, _, _⟩ := id hW
  have hA : DataW.TrodAll enc Tryd.prog W 0 (fun _ => true) true Tryd.f4.params.toList args.toList ds p := hA0
  obtain ⟨rfl, rfl⟩ := trodVars_none hV
  have hsz1 : (DataW.weightsEach Tryd.prog (Tryd.f4.params.toList ++ []) (ds ++ [])).all (· ≤ reachBytes) = true := hsz
  clear hsz
  have hsz : (DataW.weightsEach Tryd.prog Tryd.f4.params.toList ds).all (· ≤ reachBytes) = true := by simpa only [List.append_nil] using hsz1
  rw [Tryd.params4] at hA hval hsz
  obtain ⟨v0, v1, v2, v3, d0, d1, d2, d3, p0, p1, p2, p3, rfl, rfl, rfl, h0, h1, h2, h3⟩ := trodAll_four hA
  obtain ⟨A0, k0, x0, rfl, f0, g0⟩ := arg_slice Tryd.underlying33 opens_t33 (hval 0 33 v0 rfl rfl) h0 (weights_arg hsz 0 rfl rfl)
  obtain ⟨cs1, x1, rfl, r1, g1⟩ := arg_struct Tryd.underlying30 opens_t30 (hval 1 30 v1 rfl rfl) h1 (weights_arg hsz 1 rfl rfl)
  obtain ⟨A1_8, k1_8, rfl, f1_8⟩ := r1
  obtain ⟨cs2, x2, rfl, r2, g2⟩ := arg_struct Tryd.underlying24 opens_t24 (hval 2 24 v2 rfl rfl) h2 (weights_arg hsz 2 rfl rfl)
  obtain rfl := r2
  obtain ⟨x3, rfl, g3⟩ := arg_int Tryd.underlying3 (hval 3 3 v3 rfl rfl) h3 (weights_arg hsz 3 rfl rfl)
  have hp : wirelesslaw40_BondsChanges FF x0 x1 x2 x3 = some true := (changes_go x0 x1 x2 x3 (gblist g0) (gbits g1) (gadr g2))
  exact shut (from_spec (ok_wirelesslaw40_BondsChanges FF x0 x1 x2 x3 true hp) [.r A0 (List.length x0) k0, .r A1_8 (List.length x1.Subs) k1_8] rfl (by kernel_rfl) (V.laid_globs hL) ⟨⟨rfl, f0⟩, ⟨rfl, f1_8⟩, trivial⟩ rfl) hW' rfl rfl rfl Tryd.underlying4 V.laidOut (by kernel_rfl)
theorem bondsChanges_holds : Rows.BondsChangesSaid :=
  OpenClaim.holds_of_wide 4 Tryd.f4 rfl rfl rfl rfl rfl rfl rfl ⟨rfl, rfl, rfl, rfl, rfl⟩ rfl rfl rfl rfl rfl (by kernel_rfl) Tryd.func4 (by kernel_rfl)
    (of_decide_eq_true (by kernel_rfl)) (by unfold Func.isWrapper; first | (rw [if_pos (by decide +kernel)]; kernel_rfl) | (rw [if_neg (by decide +kernel)]; exact ⟨rfl, rfl⟩))
    (fun os started H enc _ => V.bondsChanges_lifted os started H enc)
theorem bondsChangesCard_holds : Rows.BondsChangesCardSaid :=
  Claim7.holds_tied_plain_at .later [] [.data] true (true, "d2f41ddd1dcf2ac54a3e713b563eee8a08e085c38cffdac529ae66f215a5a175") true
    bondsChanges_holds (fun _ h => by cases h) (by kernel_rfl) (fun _ h => by cases h) bondsChanges_row_tie rfl ⟨rfl, rfl⟩ (by kernel_rfl) rfl
    (fun f fn hf hfn => by
      obtain rfl : f = 4 := Option.some.inj ((show Tryd.prog.funcNamed "wireless/wirelesslaw40.BondsChanges" = some 4 by kernel_rfl).symm.trans hf) |>.symm
      obtain rfl : fn = Tryd.f4 := (Option.some.inj (Tryd.func4.symm.trans hfn)).symm
      exact ⟨by kernel_rfl, fun j t ht => by
        rw [Tryd.params4] at ht
        have hm := Array.mem_of_getElem? ht
        rw [List.mem_toArray] at hm
        have hall : ([33, 30, 24, 3].all fun u => !Tryd.prog.wantsStandIn u) = true := by kernel_rfl
        exact (show Tryd.prog.wantsStandIn t = false by simpa using List.all_eq_true.1 hall t hm)⟩)
    (by kernel_rfl)
end Go.Proofs.YtbdhonofhlpdoaaDoor
