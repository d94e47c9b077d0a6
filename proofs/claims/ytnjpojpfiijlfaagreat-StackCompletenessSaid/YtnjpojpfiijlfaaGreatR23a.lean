/-
The closed facts of the row of StackCompleteness. No statement of the seat is proved here; no conditions.
-/
import Derived.Test.YtnjpojpfiijlfaaGreatR21a
namespace Go.Proofs.YtnjpojpfiijlfaaGreat
set_option linter.unusedVariables false
set_option linter.unusedSimpArgs false
open Go.ChangeShapes Go.WideShapes Go.ChangeAt Go.RowKit Go.Deep
open Wd

theorem stackCompleteness_j1 : (Rows.stackCompletenessRow.wf (OpenSpec.ofChange Rows.stackCompletenessSpec)) = true := by kernel_rfl
theorem stackCompleteness_j2 : (laidOutB Tryz.prog) = true := stackPermutation_j2
theorem stackCompleteness_j3 : (mapsRowed Tryz.prog) = true := stackPermutation_j3
theorem stackCompleteness_j4 : (Tryz.f8.params.all (Tryz.prog.readableRec ·)) = true := by kernel_rfl
theorem stackCompleteness_j5 : (namedTie Tryz.prog Rows.stackCompletenessRow.named Rows.stackCompletenessSpec.vars) = true := by kernel_rfl
theorem stackCompleteness_j6 : ((Rows.stackCompletenessRow.stops == [])) = true := by kernel_rfl
theorem stackCompleteness_j7 : ((Tryz.prog.stops == [])) = true := stackPermutation_j7
theorem stackCompleteness_j8 : ((Rows.stackCompletenessRow.knobs == [])) = true := by kernel_rfl
theorem stackCompleteness_j9 : ((Tryz.prog.stopKnobs == [])) = true := stackPermutation_j9
theorem stackCompleteness_j10 : ((Rows.stackCompletenessRow.inPlace == Tryz.prog.inPlace 8)) = true := by kernel_rfl
theorem stackCompleteness_j11 : ((Rows.stackCompletenessRow.unfollowed == Tryz.prog.unfollowed 8)) = true := by kernel_rfl
theorem stackCompleteness_j12 : ((Rows.stackCompletenessRow.recurses == Tryz.prog.recurses 8)) = true := by kernel_rfl
theorem stackCompleteness_j13 : ((Rows.stackCompletenessRow.named == Tryz.prog.varsNamed 8)) = true := by kernel_rfl
theorem stackCompleteness_j14 : ((Rows.stackCompletenessRow.maps == (Tryz.f8.params.toList ++ Rows.stackCompletenessSpec.plain.varTypes Tryz.prog).any (Tryz.prog.mapsRec ·))) = true := by kernel_rfl
theorem stackCompleteness_j15 : ((Rows.stackCompletenessRow.ifaces == (Tryz.f8.params.toList ++ Rows.stackCompletenessSpec.plain.varTypes Tryz.prog).any (Tryz.prog.ifacesRec ·))) = true := by kernel_rfl
theorem stackCompleteness_j16 : ((Rows.stackCompletenessRow.mapsOut == Tryz.prog.mapsAmong Tryz.f8.resultTypes.toList)) = true := by kernel_rfl
theorem stackCompleteness_j17 : ((Rows.stackCompletenessRow.loops == (Tryz.f8.params.toList ++ Rows.stackCompletenessSpec.plain.varTypes Tryz.prog).any (Tryz.prog.loopsFrom ·))) = true := by kernel_rfl
theorem stackCompleteness_j18 : ((Rows.stackCompletenessRow.wideKeys == (Tryz.f8.params.toList ++ Rows.stackCompletenessSpec.plain.varTypes Tryz.prog ++ Tryz.f8.resultTypes.toList).any (Tryz.prog.wideKeysFrom ·))) = true := by kernel_rfl
theorem stackCompleteness_j19 : (Rows.stackCompletenessSpec.vars.all (Tryz.prog.varReadable ·)) = true := by kernel_rfl
theorem stackCompleteness_j20 : (Tryz.f8.resultTypes.all (fun t => Tryz.prog.readableRec t && decide (t < Tryz.prog.types.size))) = true := by kernel_rfl
theorem stackCompleteness_j21 : ((Rows.stackCompletenessRow.ifacesOut == Tryz.f8.resultTypes.toList.any (Tryz.prog.ifacesRec ·))) = true := by kernel_rfl
theorem stackCompleteness_j22 : ((Rows.stackCompletenessRow.loopsOut == Tryz.f8.resultTypes.toList.any (Tryz.prog.loopsFrom ·))) = true := by kernel_rfl
theorem stackCompleteness_j23 : ((Rows.stackCompletenessRow.plainKeys == Tryz.prog.plainKeys)) = true := stackPermutation_j23
theorem stackCompleteness_j24 : (Rows.stackCompletenessRow.shortTexts.isNone) = true := by kernel_rfl
theorem stackCompleteness_j25 : (Tryz.prog.stopsHeard) = true := stackPermutation_j25
theorem stackCompleteness_j26 : (Tryz.prog.mayEnter) = true := stackPermutation_j26
theorem stackCompleteness_j27 : ((Rows.stackCompletenessRow.lifted == Tryz.prog.liftsFinal)) = true := stackPermutation_j27
theorem stackCompleteness_j28 : ((Tryz.prog.make == some Rows.stackCompletenessRow.make)) = true := stackPermutation_j28
theorem stackCompleteness_j29 : ((Rows.stackCompletenessRow.kinds == (if Rows.stackCompletenessRow.domain.isEmpty then [] else Tryz.f8.params.toList.map fun t => match Tryz.prog.underlying t with | some (.int k) => some k | _ => none))) = true := by kernel_rfl
theorem stackCompleteness_j30 : ((Rows.stackCompletenessRow.pinned == Rows.stackCompletenessRow.pinnedBy)) = true := by kernel_rfl
theorem stackCompleteness_j31 : ((Rows.stackCompletenessRow.veiled == (Tryz.f8.params.toList ++ Rows.stackCompletenessSpec.plain.varTypes Tryz.prog ++ Tryz.f8.resultTypes.toList).any (Tryz.prog.veiledRec ·))) = true := by kernel_rfl
theorem stackCompleteness_j32 : (Rows.stackCompletenessRow.veiledFits Tryz.prog Tryz.f8.params.toList (Tryz.f8.params.toList ++ Rows.stackCompletenessSpec.plain.varTypes Tryz.prog ++ Tryz.f8.resultTypes.toList)) = true := by kernel_rfl
set_option maxRecDepth 100000 in
theorem stackCompleteness_closed : joinedFacts Tryz.prog 8 Tryz.f8 Rows.stackCompletenessSpec Rows.stackCompletenessRow = true := by
  unfold joinedFacts
  exact (andB (andB (andB (andB (andB (andB (andB (andB (andB (andB (andB (andB (andB (andB (andB (andB (andB (andB (andB (andB (andB (andB (andB (andB (andB (andB (andB (andB (andB (andB (andB stackCompleteness_j1 stackCompleteness_j2) stackCompleteness_j3) stackCompleteness_j4) stackCompleteness_j5) stackCompleteness_j6) stackCompleteness_j7) stackCompleteness_j8) stackCompleteness_j9) stackCompleteness_j10) stackCompleteness_j11) stackCompleteness_j12) stackCompleteness_j13) stackCompleteness_j14) stackCompleteness_j15) stackCompleteness_j16) stackCompleteness_j17) stackCompleteness_j18) stackCompleteness_j19) stackCompleteness_j20) stackCompleteness_j21) stackCompleteness_j22) stackCompleteness_j23) stackCompleteness_j24) stackCompleteness_j25) stackCompleteness_j26) stackCompleteness_j27) stackCompleteness_j28) stackCompleteness_j29) stackCompleteness_j30) stackCompleteness_j31) stackCompleteness_j32)
end Go.Proofs.YtnjpojpfiijlfaaGreat
