/-
The closed facts of the row of StackAggregation. No statement of the seat is proved here; no conditions.
-/
import Derived.Test.YtnjpojpfiijlfaaGreatR21a
namespace Go.Proofs.YtnjpojpfiijlfaaGreat
set_option linter.unusedVariables false
set_option linter.unusedSimpArgs false
open Go.ChangeShapes Go.WideShapes Go.ChangeAt Go.RowKit Go.Deep
open Wd

theorem stackAggregation_j1 : (Rows.stackAggregationRow.wf (OpenSpec.ofChange Rows.stackAggregationSpec)) = true := by kernel_rfl
theorem stackAggregation_j2 : (laidOutB Tryz.prog) = true := stackPermutation_j2
theorem stackAggregation_j3 : (mapsRowed Tryz.prog) = true := stackPermutation_j3
theorem stackAggregation_j4 : (Tryz.f9.params.all (Tryz.prog.readableRec ·)) = true := by kernel_rfl
theorem stackAggregation_j5 : (namedTie Tryz.prog Rows.stackAggregationRow.named Rows.stackAggregationSpec.vars) = true := by kernel_rfl
theorem stackAggregation_j6 : ((Rows.stackAggregationRow.stops == [])) = true := by kernel_rfl
theorem stackAggregation_j7 : ((Tryz.prog.stops == [])) = true := stackPermutation_j7
theorem stackAggregation_j8 : ((Rows.stackAggregationRow.knobs == [])) = true := by kernel_rfl
theorem stackAggregation_j9 : ((Tryz.prog.stopKnobs == [])) = true := stackPermutation_j9
theorem stackAggregation_j10 : ((Rows.stackAggregationRow.inPlace == Tryz.prog.inPlace 9)) = true := by kernel_rfl
theorem stackAggregation_j11 : ((Rows.stackAggregationRow.unfollowed == Tryz.prog.unfollowed 9)) = true := by kernel_rfl
theorem stackAggregation_j12 : ((Rows.stackAggregationRow.recurses == Tryz.prog.recurses 9)) = true := by kernel_rfl
theorem stackAggregation_j13 : ((Rows.stackAggregationRow.named == Tryz.prog.varsNamed 9)) = true := by kernel_rfl
theorem stackAggregation_j14 : ((Rows.stackAggregationRow.maps == (Tryz.f9.params.toList ++ Rows.stackAggregationSpec.plain.varTypes Tryz.prog).any (Tryz.prog.mapsRec ·))) = true := by kernel_rfl
theorem stackAggregation_j15 : ((Rows.stackAggregationRow.ifaces == (Tryz.f9.params.toList ++ Rows.stackAggregationSpec.plain.varTypes Tryz.prog).any (Tryz.prog.ifacesRec ·))) = true := by kernel_rfl
theorem stackAggregation_j16 : ((Rows.stackAggregationRow.mapsOut == Tryz.prog.mapsAmong Tryz.f9.resultTypes.toList)) = true := by kernel_rfl
theorem stackAggregation_j17 : ((Rows.stackAggregationRow.loops == (Tryz.f9.params.toList ++ Rows.stackAggregationSpec.plain.varTypes Tryz.prog).any (Tryz.prog.loopsFrom ·))) = true := by kernel_rfl
theorem stackAggregation_j18 : ((Rows.stackAggregationRow.wideKeys == (Tryz.f9.params.toList ++ Rows.stackAggregationSpec.plain.varTypes Tryz.prog ++ Tryz.f9.resultTypes.toList).any (Tryz.prog.wideKeysFrom ·))) = true := by kernel_rfl
theorem stackAggregation_j19 : (Rows.stackAggregationSpec.vars.all (Tryz.prog.varReadable ·)) = true := by kernel_rfl
theorem stackAggregation_j20 : (Tryz.f9.resultTypes.all (fun t => Tryz.prog.readableRec t && decide (t < Tryz.prog.types.size))) = true := by kernel_rfl
theorem stackAggregation_j21 : ((Rows.stackAggregationRow.ifacesOut == Tryz.f9.resultTypes.toList.any (Tryz.prog.ifacesRec ·))) = true := by kernel_rfl
theorem stackAggregation_j22 : ((Rows.stackAggregationRow.loopsOut == Tryz.f9.resultTypes.toList.any (Tryz.prog.loopsFrom ·))) = true := by kernel_rfl
theorem stackAggregation_j23 : ((Rows.stackAggregationRow.plainKeys == Tryz.prog.plainKeys)) = true := stackPermutation_j23
theorem stackAggregation_j24 : (Rows.stackAggregationRow.shortTexts.isNone) = true := by kernel_rfl
theorem stackAggregation_j25 : (Tryz.prog.stopsHeard) = true := stackPermutation_j25
theorem stackAggregation_j26 : (Tryz.prog.mayEnter) = true := stackPermutation_j26
theorem stackAggregation_j27 : ((Rows.stackAggregationRow.lifted == Tryz.prog.liftsFinal)) = true := stackPermutation_j27
theorem stackAggregation_j28 : ((Tryz.prog.make == some Rows.stackAggregationRow.make)) = true := stackPermutation_j28
theorem stackAggregation_j29 : ((Rows.stackAggregationRow.kinds == (if Rows.stackAggregationRow.domain.isEmpty then [] else Tryz.f9.params.toList.map fun t => match Tryz.prog.underlying t with | some (.int k) => some k | _ => none))) = true := by kernel_rfl
theorem stackAggregation_j30 : ((Rows.stackAggregationRow.pinned == Rows.stackAggregationRow.pinnedBy)) = true := by kernel_rfl
theorem stackAggregation_j31 : ((Rows.stackAggregationRow.veiled == (Tryz.f9.params.toList ++ Rows.stackAggregationSpec.plain.varTypes Tryz.prog ++ Tryz.f9.resultTypes.toList).any (Tryz.prog.veiledRec ·))) = true := by kernel_rfl
theorem stackAggregation_j32 : (Rows.stackAggregationRow.veiledFits Tryz.prog Tryz.f9.params.toList (Tryz.f9.params.toList ++ Rows.stackAggregationSpec.plain.varTypes Tryz.prog ++ Tryz.f9.resultTypes.toList)) = true := by kernel_rfl
set_option maxRecDepth 100000 in
theorem stackAggregation_closed : joinedFacts Tryz.prog 9 Tryz.f9 Rows.stackAggregationSpec Rows.stackAggregationRow = true := by
  unfold joinedFacts
  exact (andB (andB (andB (andB (andB (andB (andB (andB (andB (andB (andB (andB (andB (andB (andB (andB (andB (andB (andB (andB (andB (andB (andB (andB (andB (andB (andB (andB (andB (andB (andB stackAggregation_j1 stackAggregation_j2) stackAggregation_j3) stackAggregation_j4) stackAggregation_j5) stackAggregation_j6) stackAggregation_j7) stackAggregation_j8) stackAggregation_j9) stackAggregation_j10) stackAggregation_j11) stackAggregation_j12) stackAggregation_j13) stackAggregation_j14) stackAggregation_j15) stackAggregation_j16) stackAggregation_j17) stackAggregation_j18) stackAggregation_j19) stackAggregation_j20) stackAggregation_j21) stackAggregation_j22) stackAggregation_j23) stackAggregation_j24) stackAggregation_j25) stackAggregation_j26) stackAggregation_j27) stackAggregation_j28) stackAggregation_j29) stackAggregation_j30) stackAggregation_j31) stackAggregation_j32)
end Go.Proofs.YtnjpojpfiijlfaaGreat
