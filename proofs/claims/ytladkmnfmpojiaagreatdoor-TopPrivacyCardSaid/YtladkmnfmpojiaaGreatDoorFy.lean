/-
  What the row says of the whole program: all of it.
-/
import Derived.Test.YtladkmnfmpojiaaGreatDoorFx
import Derived.Test.YtladkmnfmpojiaaGreatDoorFz
import Derived.SevenTiedAt
namespace Go.Proofs.YtladkmnfmpojiaaGreatDoor
namespace Z
set_option maxRecDepth 100000
theorem g0 : (Rows.topPrivacyRow.wf (OpenSpec.ofChange Rows.topPrivacySpec)) = true := by kernel_rfl
theorem g1 : (laidOutB Tryz.prog) = true := laidOut
theorem g2 : (mapsRowed Tryz.prog) = true := mapsR
theorem g3 : (Tryz.f3.params.all (Tryz.prog.readableRec ·)) = true := by kernel_rfl
theorem g4 : (namedTie Tryz.prog Rows.topPrivacyRow.named Rows.topPrivacySpec.vars) = true := by kernel_rfl
theorem g5 : ((Rows.topPrivacyRow.stops == [])) = true := by kernel_rfl
theorem g6 : ((Tryz.prog.stops == [])) = true := by
  show (Tryz.prog.stops == []) = true
  rw [noStops]
  rfl
theorem g7 : ((Rows.topPrivacyRow.knobs == [])) = true := by kernel_rfl
theorem g8 : ((Tryz.prog.stopKnobs == [])) = true := by
  show (Tryz.prog.stopKnobs == []) = true
  rw [noKnobs]
  rfl
theorem g9 : ((Rows.topPrivacyRow.inPlace == Tryz.prog.inPlace 3)) = true := inPl
theorem g10 : ((Rows.topPrivacyRow.unfollowed == Tryz.prog.unfollowed 3)) = true := by
  show (Rows.topPrivacyRow.unfollowed == Tryz.prog.unfollowed 3) = true
  rw [unf]
  rfl
theorem g11 : ((Rows.topPrivacyRow.recurses == Tryz.prog.recurses 3)) = true := by
  show (Rows.topPrivacyRow.recurses == Tryz.prog.recurses 3) = true
  rw [recs]
  rfl
theorem g12 : ((Rows.topPrivacyRow.named == Tryz.prog.varsNamed 3)) = true := nam
theorem g13 : ((Rows.topPrivacyRow.maps == (Tryz.f3.params.toList ++ Rows.topPrivacySpec.plain.varTypes Tryz.prog).any (Tryz.prog.mapsRec ·))) = true := by kernel_rfl
theorem g14 : ((Rows.topPrivacyRow.ifaces == (Tryz.f3.params.toList ++ Rows.topPrivacySpec.plain.varTypes Tryz.prog).any (Tryz.prog.ifacesRec ·))) = true := by kernel_rfl
theorem g15 : ((Rows.topPrivacyRow.mapsOut == Tryz.prog.mapsAmong Tryz.f3.resultTypes.toList)) = true := by kernel_rfl
theorem g16 : ((Rows.topPrivacyRow.loops == (Tryz.f3.params.toList ++ Rows.topPrivacySpec.plain.varTypes Tryz.prog).any (Tryz.prog.loopsFrom ·))) = true := by kernel_rfl
theorem g17 : ((Rows.topPrivacyRow.wideKeys == (Tryz.f3.params.toList ++ Rows.topPrivacySpec.plain.varTypes Tryz.prog ++ Tryz.f3.resultTypes.toList).any (Tryz.prog.wideKeysFrom ·))) = true := by kernel_rfl
theorem g18 : (Rows.topPrivacySpec.vars.all (Tryz.prog.varReadable ·)) = true := by kernel_rfl
theorem g19 : (Tryz.f3.resultTypes.all (fun t => Tryz.prog.readableRec t && decide (t < Tryz.prog.types.size))) = true := by kernel_rfl
theorem g20 : ((Rows.topPrivacyRow.ifacesOut == Tryz.f3.resultTypes.toList.any (Tryz.prog.ifacesRec ·))) = true := by kernel_rfl
theorem g21 : ((Rows.topPrivacyRow.loopsOut == Tryz.f3.resultTypes.toList.any (Tryz.prog.loopsFrom ·))) = true := by kernel_rfl
theorem g22 : ((Rows.topPrivacyRow.plainKeys == Tryz.prog.plainKeys)) = true := by
  show (Rows.topPrivacyRow.plainKeys == Tryz.prog.plainKeys) = true
  have h : Tryz.prog.plainKeys = true := by
    unfold Program.plainKeys
    rw [nTypes]
    exact kr
  rw [h]
  rfl
theorem g23 : (Rows.topPrivacyRow.shortTexts.isNone) = true := by kernel_rfl
theorem g24 : (Tryz.prog.stopsHeard) = true := heard
theorem g25 : (Tryz.prog.mayEnter) = true := enters
theorem g26 : ((Rows.topPrivacyRow.lifted == Tryz.prog.liftsFinal)) = true := by kernel_rfl
theorem g27 : ((Tryz.prog.make == some Rows.topPrivacyRow.make)) = true := by kernel_rfl
theorem g28 : ((Rows.topPrivacyRow.kinds == (if Rows.topPrivacyRow.domain.isEmpty then [] else Tryz.f3.params.toList.map fun t => match Tryz.prog.underlying t with | some (.int k) => some k | _ => none))) = true := by kernel_rfl
theorem g29 : ((Rows.topPrivacyRow.pinned == Rows.topPrivacyRow.pinnedBy)) = true := by kernel_rfl
theorem g30 : ((Rows.topPrivacyRow.veiled == (Tryz.f3.params.toList ++ Rows.topPrivacySpec.plain.varTypes Tryz.prog ++ Tryz.f3.resultTypes.toList).any (Tryz.prog.veiledRec ·))) = true := by kernel_rfl
theorem g31 : (Rows.topPrivacyRow.veiledFits Tryz.prog Tryz.f3.params.toList (Tryz.f3.params.toList ++ Rows.topPrivacySpec.plain.varTypes Tryz.prog ++ Tryz.f3.resultTypes.toList)) = true := by kernel_rfl
section
variable (P : Program) (f : FuncId) (fn : Func) (s : ChangeSpec) (c : OpenClaim)
theorem jf (h0 : (c.wf (OpenSpec.ofChange s)) = true) (h1 : (laidOutB P) = true) (h2 : (mapsRowed P) = true) (h3 : (fn.params.all (P.readableRec ·)) = true) (h4 : (namedTie P c.named s.vars) = true) (h5 : ((c.stops == [])) = true) (h6 : ((P.stops == [])) = true) (h7 : ((c.knobs == [])) = true) (h8 : ((P.stopKnobs == [])) = true) (h9 : ((c.inPlace == P.inPlace f)) = true) (h10 : ((c.unfollowed == P.unfollowed f)) = true) (h11 : ((c.recurses == P.recurses f)) = true) (h12 : ((c.named == P.varsNamed f)) = true) (h13 : ((c.maps == (fn.params.toList ++ s.plain.varTypes P).any (P.mapsRec ·))) = true) (h14 : ((c.ifaces == (fn.params.toList ++ s.plain.varTypes P).any (P.ifacesRec ·))) = true) (h15 : ((c.mapsOut == P.mapsAmong fn.resultTypes.toList)) = true) (h16 : ((c.loops == (fn.params.toList ++ s.plain.varTypes P).any (P.loopsFrom ·))) = true) (h17 : ((c.wideKeys == (fn.params.toList ++ s.plain.varTypes P ++ fn.resultTypes.toList).any (P.wideKeysFrom ·))) = true) (h18 : (s.vars.all (P.varReadable ·)) = true) (h19 : (fn.resultTypes.all (fun t => P.readableRec t && decide (t < P.types.size))) = true) (h20 : ((c.ifacesOut == fn.resultTypes.toList.any (P.ifacesRec ·))) = true) (h21 : ((c.loopsOut == fn.resultTypes.toList.any (P.loopsFrom ·))) = true) (h22 : ((c.plainKeys == P.plainKeys)) = true) (h23 : (c.shortTexts.isNone) = true) (h24 : (P.stopsHeard) = true) (h25 : (P.mayEnter) = true) (h26 : ((c.lifted == P.liftsFinal)) = true) (h27 : ((P.make == some c.make)) = true) (h28 : ((c.kinds == (if c.domain.isEmpty then [] else fn.params.toList.map fun t => match P.underlying t with | some (.int k) => some k | _ => none))) = true) (h29 : ((c.pinned == c.pinnedBy)) = true) (h30 : ((c.veiled == (fn.params.toList ++ s.plain.varTypes P ++ fn.resultTypes.toList).any (P.veiledRec ·))) = true) (h31 : (c.veiledFits P fn.params.toList (fn.params.toList ++ s.plain.varTypes P ++ fn.resultTypes.toList)) = true) : joinedFacts P f fn s c = true := by
  unfold joinedFacts
  exact (and_i (and_i (and_i (and_i (and_i (and_i (and_i (and_i (and_i (and_i (and_i (and_i (and_i (and_i (and_i (and_i (and_i (and_i (and_i (and_i (and_i (and_i (and_i (and_i (and_i (and_i (and_i (and_i (and_i (and_i (and_i h0 h1) h2) h3) h4) h5) h6) h7) h8) h9) h10) h11) h12) h13) h14) h15) h16) h17) h18) h19) h20) h21) h22) h23) h24) h25) h26) h27) h28) h29) h30) h31)
end
theorem facts : joinedFacts Tryz.prog 3 Tryz.f3 Rows.topPrivacySpec Rows.topPrivacyRow = true := jf Tryz.prog 3 Tryz.f3 Rows.topPrivacySpec Rows.topPrivacyRow g0 g1 g2 g3 g4 g5 g6 g7 g8 g9 g10 g11 g12 g13 g14 g15 g16 g17 g18 g19 g20 g21 g22 g23 g24 g25 g26 g27 g28 g29 g30 g31
theorem noGo {P : Program} (h : P.funcs.toList.any Func.goes = false) (f : FuncId) : P.goes f = false := by
  unfold Program.goes
  have h1 : ((P.closure f).any fun g => (P.funcs[g]?).any Func.goes) = false := by
    rw [List.any_eq_false]
    intro g _
    cases e : P.funcs[g]? with
    | none => exact Bool.false_ne_true
    | some fn => exact List.any_eq_false.1 h fn (Array.mem_toList_iff.2 (Array.mem_of_getElem? e))
  rw [h1, ← Array.any_toList, h, Bool.and_false]
  rfl
theorem goesBy_no {P : Program} {c : OpenClaim} (h : ∀ f, P.goes f = false) (hs : c.start = .entering) : false = c.goesBy P := by
  unfold OpenClaim.goesBy Program.goesAt Program.goesFrom
  rw [hs]
  cases P.funcNamed c.func with
  | none => rfl
  | some f =>
    show false = (P.goes f || false)
    rw [h f]
    rfl
theorem goesF : false = Rows.topPrivacyRow.goesBy Tryz.prog := goesBy_no (noGo (by kernel_rfl)) rfl
end Z
end Go.Proofs.YtladkmnfmpojiaaGreatDoor
