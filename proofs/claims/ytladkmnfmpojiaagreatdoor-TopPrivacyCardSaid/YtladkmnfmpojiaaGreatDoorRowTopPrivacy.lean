/-
  TopPrivacy: the row.
-/
import Derived.Test.YtladkmnfmpojiaaGreatDoorBr
import Derived.Test.YtladkmnfmpojiaaGreatDoorW1
import Derived.Test.YtladkmnfmpojiaaGreatDoorFy
import Derived.Test.YtladkmnfmpojiaaGreatDoorPl
import Derived.Test.YtladkmnfmpojiaaGreatDoorCards
import Derived.Test.YtladkmnfmpojiaaGreatDoorFt
import Derived.LaidLaws
import Derived.LaidHandle
import Derived.Lib.LaidTab
import Derived.SevenTiedAt
import Derived.JoinedOf
import Derived.Carry
namespace Go.Proofs.YtladkmnfmpojiaaGreatDoor
open Go.ChangeShapes Go.WideShapes Go.ChangeAt Go.RowKit Go.Deep V
/-- A world that meets the condition. -/
noncomputable def V.laidWorld (os : Os) : World :=
  let w0 := World.holding Tryz.prog os ⟨#[], #[], []⟩
  { w0 with heap := (((w0.heap).modify 2 fun
      | .cells _ t frozen => .cells #[.int .i64 1, .int .i64 1, .int .i64 3, .int .i64 1, .int .i64 3, .int .i64 1, .int .i64 2, .int .i64 3, .int .i64 1, .int .i64 2, .int .i64 4, .int .i64 4, .int .i64 5, .int .i64 1, .int .i64 4, .int .i64 1, .int .i64 1, .int .i64 1, .int .i64 1, .int .i64 1, .int .i64 4, .int .i64 2, .int .i64 3, .int .i64 1, .int .i64 2] t frozen
      | o => o).modify 0 fun
      | .cells _ t frozen => .cells #[.int .u64 0, .int .u64 0, .int .u64 3, .int .u64 1, .int .u64 0] t frozen
      | o => o).modify 1 fun
      | .cells _ t frozen => .cells #[.int .u32 0, .int .u32 1788928, .int .u32 3577856, .int .u32 3003392, .int .u32 7155712, .int .u32 7764992, .int .u32 6006784, .int .u32 4252672, .int .u32 14311424, .int .u32 12659712, .int .u32 15529984, .int .u32 16233472, .int .u32 12013568, .int .u32 11279360, .int .u32 8505344, .int .u32 10126336] t frozen
      | o => o }
theorem V.laidWorld_met (os : Os) (args : Array Value) : laidMetH Tryz.prog Rows.topPrivacyRow.laid ((V.laidWorld os).forCall (fun _ _ => 0) ⟨#[], args, []⟩).memory :=
  laidMetH_of_parts (laidMet_of_run' 8 (by kernel_rfl) (by kernel_rfl)) (by kernel_rfl)
theorem V.mtl {P : Program} {w : World} {n d l} (h : laidMet P ((n, d) :: l) w) : laidMet P l w := by
  obtain ⟨ps, hl, hnd, hrows⟩ := h
  obtain ⟨g, t, cs, fuel, p, q, e1, e2, e3, e4, hr, rfl⟩ := hl
  exact ⟨q, hr, hnd.sublist (List.sublist_append_right _ _), fun b off hp => hrows b off (List.mem_append_right _ hp)⟩
theorem V.tab_globs {W : World} {g : Nat} {k : IntKind} {zs : List Int} (hc : ∀ i, i < zs.length → W.cell? ⟨g, i, none⟩ = some (.int k (zs.getD i 0))) (j : Nat) (v : Value) (hj : (zs.map (Value.int k))[j]? = some v) : W.cell? ⟨g, j, none⟩ = some v := by
  have hl := (List.getElem?_eq_some_iff.1 hj).1
  rw [List.length_map] at hl
  rw [hc j hl]
  rw [List.getElem?_map, List.getElem?_eq_getElem hl] at hj
  injection hj with hj
  rw [← hj, List.getD_eq_getElem?_getD, List.getElem?_eq_getElem hl]
  rfl
theorem V.laid_globs {W : World} (h : laidMetH Tryz.prog Rows.topPrivacyRow.laid W) : Globs (fun _ => False) [] W := fun p hp => by
  have h0 : laidMet Tryz.prog [("wireless/method.table", .agg (([[1, 1, 3, 1, 3], [1, 2, 3, 1, 2], [4, 4, 5, 1, 4], [1, 1, 1, 1, 1], [4, 2, 3, 1, 2]] : List (List Int)).map (Lib.tabData .i64))), ("wireless/address.prefixes", Lib.tabData .u64 [0, 0, 3, 1, 0]), ("wireless/crc.sums", Lib.tabData .u32 [0, 1788928, 3577856, 3003392, 7155712, 7764992, 6006784, 4252672, 14311424, 12659712, 15529984, 16233472, 12013568, 11279360, 8505344, 10126336])] W := h
  simp only [globs, List.mem_cons, List.not_mem_nil, or_false] at hp
  rcases hp with rfl | rfl | rfl
  · exact ⟨by simp, fun h => h, by simp, V.tab_globs fun i hi => (Lib.tabIs_of_head (g := 0) (t := 103) (e := 22) (n := 5) (by kernel_rfl) (by kernel_rfl) Tryz.underlying103 Tryz.underlying22 (by kernel_rfl) (by kernel_rfl) (V.mtl h0)).cell (by kernel_rfl) i hi⟩
  · exact ⟨by simp, fun h => h, by simp, V.tab_globs fun i hi => (Lib.tabIs_of_head (g := 1) (t := 784) (e := 100) (n := 16) (by kernel_rfl) (by kernel_rfl) Tryz.underlying784 Tryz.underlying100 (by kernel_rfl) (by kernel_rfl) (V.mtl (V.mtl h0))).cell (by kernel_rfl) i hi⟩
  · exact ⟨by simp, fun h => h, by simp, V.tab_globs fun i hi => (V.tab2_of_head (g := 2) (t := 860) (e1 := 859) (e := 3) (n := 5) (m := 5) (by kernel_rfl) (by kernel_rfl) Tryz.underlying860 Tryz.underlying859 Tryz.underlying3 (by kernel_rfl) (by kernel_rfl) (by kernel_rfl) h0).cell (by kernel_rfl) i hi⟩
set_option maxRecDepth 100000 in
set_option maxHeartbeats 1000000 in
theorem V.topPrivacy_lifted (os : Os) (started : os.Started) (H : Type) (enc : TypeId × Value → H) :
    ReturnsInHanded {} Tryz.checked os 3 .any (fun w args => (Rows.topPrivacySpec.pre enc Tryz.prog Tryz.f3 Rows.topPrivacyRow.domain false w args ∧ laidMetH Tryz.prog Rows.topPrivacyRow.laid w) ∧ sizedMet enc Tryz.prog Tryz.f3 (OpenSpec.ofChange Rows.topPrivacySpec) false w args) (Rows.topPrivacySpec.post enc Tryz.prog Tryz.f3 false true false false) := by
  refine returnsInHanded_of_change_and (C := Tryz.checked) (X := fun w _ => laidMetH Tryz.prog Rows.topPrivacyRow.laid w) (fun _ _ _ hh h => h.of_heap hh) V.own started (by kernel_rfl) Tryz.func3
    (ChangeSpec.witness_at (enc := enc) (C := Tryz.checked) (os := os) (X := fun w _ => laidMetH Tryz.prog Rows.topPrivacyRow.laid w) false (V.laidWorld os) #[.int .u64 0, .int .u64 0, .int .i64 0, .int .i64 0, .int .i64 0] 8 rfl (by kernel_rfl) (by kernel_rfl) (by kernel_rfl) (by kernel_rfl) (by kernel_rfl) (V.laidWorld_met os _)) ?_
  intro W base args ds gs before hval0 hW _ hsz hL _
  have hval : ∀ (j : Nat) t v, Tryz.f3.params[j]? = some t → args[j]? = some v → Value.okWide Tryz.prog W .any base t v := hval0
  have hW' : DataW.Whole enc Tryz.prog Tryz.f3.params.toList Rows.topPrivacySpec.vars false W args.toList ds gs before := hW
  obtain ⟨p, q, hA0, hV, rfl, _, _⟩ := id hW
  have hA : DataW.TrodAll enc Tryz.prog W 0 (fun _ => true) true Tryz.f3.params.toList args.toList ds p := hA0
  obtain ⟨rfl, rfl⟩ := trodVars_none hV
  have hsz1 : (DataW.weightsEach Tryz.prog (Tryz.f3.params.toList ++ []) (ds ++ [])).all (· ≤ reachBytes) = true := hsz
  clear hsz
  have hsz : (DataW.weightsEach Tryz.prog Tryz.f3.params.toList ds).all (· ≤ reachBytes) = true := by simpa only [List.append_nil] using hsz1
  rw [Tryz.params3] at hA hval hsz
  obtain ⟨v0, v1, v2, v3, v4, d0, d1, d2, d3, d4, p0, p1, p2, p3, p4, rfl, rfl, rfl, h0, h1, h2, h3, h4⟩ := trod5 hA
  obtain ⟨x0, rfl, g0⟩ := arg_int Tryz.underlying23 (hval 0 23 v0 rfl rfl) h0 (weights_arg hsz 0 rfl rfl)
  obtain ⟨x1, rfl, g1⟩ := arg_int Tryz.underlying23 (hval 1 23 v1 rfl rfl) h1 (weights_arg hsz 1 rfl rfl)
  obtain ⟨x2, rfl, g2⟩ := arg_int Tryz.underlying3 (hval 2 3 v2 rfl rfl) h2 (weights_arg hsz 2 rfl rfl)
  obtain ⟨x3, rfl, g3⟩ := arg_int Tryz.underlying3 (hval 3 3 v3 rfl rfl) h3 (weights_arg hsz 3 rfl rfl)
  obtain ⟨x4, rfl, g4⟩ := arg_int Tryz.underlying3 (hval 4 3 v4 rfl rfl) h4 (weights_arg hsz 4 rfl rfl)
  have hp : wirelesstop_TopPrivacy FF x0 x1 x2 x3 x4 = some true := (V.privacy_top x0 x1 x2 x3 x4 )
  exact shut (from_spec (ok_wirelesstop_TopPrivacy FF x0 x1 x2 x3 x4 true hp) [] rfl (by kernel_rfl) (V.laid_globs hL) trivial rfl) hW' rfl rfl rfl Tryz.underlying4 Z.laidOut (by kernel_rfl)
theorem topPrivacy_holds : Rows.TopPrivacySaid :=
  OpenClaim.holds_of_wide 3 Tryz.f3 rfl rfl rfl rfl rfl rfl rfl ⟨rfl, rfl, rfl, rfl, rfl⟩ rfl rfl rfl rfl rfl Z.fnTop Tryz.func3 Z.facts
    (of_decide_eq_true (by kernel_rfl)) (by unfold Func.isWrapper; first | (rw [if_pos (by decide +kernel)]; kernel_rfl) | (rw [if_neg (by decide +kernel)]; exact ⟨rfl, rfl⟩))
    (fun os started H enc _ => V.topPrivacy_lifted os started H enc)
theorem topPrivacyCard_holds : Rows.TopPrivacyCardSaid :=
  Claim7.holds_tied_plain_at .later [] [.data, .data, .data] true (true, "b6d6e56fcba9d4cf5e0362d8093b6728210a18566e39ebd19e6da15117adad93") true
    topPrivacy_holds (fun _ h => by cases h) (by kernel_rfl) (fun _ h => by cases h) Z.rowTie rfl ⟨rfl, rfl⟩ (by kernel_rfl) rfl
    (fun f fn hf hfn => by
      obtain rfl : f = 3 := Option.some.inj (Z.fnTop.symm.trans hf) |>.symm
      obtain rfl : fn = Tryz.f3 := (Option.some.inj (Tryz.func3.symm.trans hfn)).symm
      exact ⟨by kernel_rfl, fun j t ht => by
        rw [Tryz.params3] at ht
        have hm := Array.mem_of_getElem? ht
        rw [List.mem_toArray] at hm
        have hall : ([23, 23, 3, 3, 3].all fun u => !Tryz.prog.wantsStandIn u) = true := by kernel_rfl
        exact (show Tryz.prog.wantsStandIn t = false by simpa using List.all_eq_true.1 hall t hm)⟩)
    Z.goesF
end Go.Proofs.YtladkmnfmpojiaaGreatDoor
