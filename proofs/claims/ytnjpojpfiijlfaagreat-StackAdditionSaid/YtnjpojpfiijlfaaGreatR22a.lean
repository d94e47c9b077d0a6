/-
The closed facts of the row of StackAddition. No statement of the seat is proved here; no conditions.
-/
import Derived.Test.YtnjpojpfiijlfaaGreatR21a
namespace Go.Proofs.YtnjpojpfiijlfaaGreat
set_option linter.unusedVariables false
set_option linter.unusedSimpArgs false
open Go.ChangeShapes Go.WideShapes Go.ChangeAt Go.RowKit Go.Deep
open Wd

theorem stackAddition_j1 : (Rows.stackAdditionRow.wf (OpenSpec.ofChange Rows.stackAdditionSpec)) = true := by kernel_rfl
theorem stackAddition_j2 : (laidOutB Tryz.prog) = true := stackPermutation_j2
theorem stackAddition_j3 : (mapsRowed Tryz.prog) = true := stackPermutation_j3
theorem stackAddition_j4 : (Tryz.f7.params.all (Tryz.prog.readableRec ·)) = true := by kernel_rfl
theorem stackAddition_j5 : (namedTie Tryz.prog Rows.stackAdditionRow.named Rows.stackAdditionSpec.vars) = true := by kernel_rfl
theorem stackAddition_j6 : ((Rows.stackAdditionRow.stops == [])) = true := by kernel_rfl
theorem stackAddition_j7 : ((Tryz.prog.stops == [])) = true := stackPermutation_j7
theorem stackAddition_j8 : ((Rows.stackAdditionRow.knobs == [])) = true := by kernel_rfl
theorem stackAddition_j9 : ((Tryz.prog.stopKnobs == [])) = true := stackPermutation_j9
theorem stackAddition_j10 : ((Rows.stackAdditionRow.inPlace == Tryz.prog.inPlace 7)) = true := by kernel_rfl
theorem stackAddition_j11 : ((Rows.stackAdditionRow.unfollowed == Tryz.prog.unfollowed 7)) = true := by kernel_rfl
theorem stackAddition_j12 : ((Rows.stackAdditionRow.recurses == Tryz.prog.recurses 7)) = true := by kernel_rfl
theorem stackAddition_j13 : ((Rows.stackAdditionRow.named == Tryz.prog.varsNamed 7)) = true := by kernel_rfl
theorem stackAddition_j14 : ((Rows.stackAdditionRow.maps == (Tryz.f7.params.toList ++ Rows.stackAdditionSpec.plain.varTypes Tryz.prog).any (Tryz.prog.mapsRec ·))) = true := by kernel_rfl
theorem stackAddition_j15 : ((Rows.stackAdditionRow.ifaces == (Tryz.f7.params.toList ++ Rows.stackAdditionSpec.plain.varTypes Tryz.prog).any (Tryz.prog.ifacesRec ·))) = true := by kernel_rfl
theorem stackAddition_j16 : ((Rows.stackAdditionRow.mapsOut == Tryz.prog.mapsAmong Tryz.f7.resultTypes.toList)) = true := by kernel_rfl
theorem stackAddition_j17 : ((Rows.stackAdditionRow.loops == (Tryz.f7.params.toList ++ Rows.stackAdditionSpec.plain.varTypes Tryz.prog).any (Tryz.prog.loopsFrom ·))) = true := by kernel_rfl
theorem stackAddition_j18 : ((Rows.stackAdditionRow.wideKeys == (Tryz.f7.params.toList ++ Rows.stackAdditionSpec.plain.varTypes Tryz.prog ++ Tryz.f7.resultTypes.toList).any (Tryz.prog.wideKeysFrom ·))) = true := by kernel_rfl
theorem stackAddition_j19 : (Rows.stackAdditionSpec.vars.all (Tryz.prog.varReadable ·)) = true := by kernel_rfl
theorem stackAddition_j20 : (Tryz.f7.resultTypes.all (fun t => Tryz.prog.readableRec t && decide (t < Tryz.prog.types.size))) = true := by kernel_rfl
theorem stackAddition_j21 : ((Rows.stackAdditionRow.ifacesOut == Tryz.f7.resultTypes.toList.any (Tryz.prog.ifacesRec ·))) = true := by kernel_rfl
theorem stackAddition_j22 : ((Rows.stackAdditionRow.loopsOut == Tryz.f7.resultTypes.toList.any (Tryz.prog.loopsFrom ·))) = true := by kernel_rfl
theorem stackAddition_j23 : ((Rows.stackAdditionRow.plainKeys == Tryz.prog.plainKeys)) = true := stackPermutation_j23
theorem stackAddition_j24 : (Rows.stackAdditionRow.shortTexts.isNone) = true := by kernel_rfl
theorem stackAddition_j25 : (Tryz.prog.stopsHeard) = true := stackPermutation_j25
theorem stackAddition_j26 : (Tryz.prog.mayEnter) = true := stackPermutation_j26
theorem stackAddition_j27 : ((Rows.stackAdditionRow.lifted == Tryz.prog.liftsFinal)) = true := stackPermutation_j27
theorem stackAddition_j28 : ((Tryz.prog.make == some Rows.stackAdditionRow.make)) = true := stackPermutation_j28
theorem stackAddition_j29 : ((Rows.stackAdditionRow.kinds == (if Rows.stackAdditionRow.domain.isEmpty then [] else Tryz.f7.params.toList.map fun t => match Tryz.prog.underlying t with | some (.int k) => some k | _ => none))) = true := by kernel_rfl
theorem stackAddition_j30 : ((Rows.stackAdditionRow.pinned == Rows.stackAdditionRow.pinnedBy)) = true := by kernel_rfl
theorem stackAddition_j31 : ((Rows.stackAdditionRow.veiled == (Tryz.f7.params.toList ++ Rows.stackAdditionSpec.plain.varTypes Tryz.prog ++ Tryz.f7.resultTypes.toList).any (Tryz.prog.veiledRec ·))) = true := by kernel_rfl
theorem stackAddition_j32 : (Rows.stackAdditionRow.veiledFits Tryz.prog Tryz.f7.params.toList (Tryz.f7.params.toList ++ Rows.stackAdditionSpec.plain.varTypes Tryz.prog ++ Tryz.f7.resultTypes.toList)) = true := by kernel_rfl
set_option maxRecDepth 100000 in
theorem stackAddition_closed : joinedFacts Tryz.prog 7 Tryz.f7 Rows.stackAdditionSpec Rows.stackAdditionRow = true := by
  unfold joinedFacts
  exact (andB (andB (andB (andB (andB (andB (andB (andB (andB (andB (andB (andB (andB (andB (andB (andB (andB (andB (andB (andB (andB (andB (andB (andB (andB (andB (andB (andB (andB (andB (andB stackAddition_j1 stackAddition_j2) stackAddition_j3) stackAddition_j4) stackAddition_j5) stackAddition_j6) stackAddition_j7) stackAddition_j8) stackAddition_j9) stackAddition_j10) stackAddition_j11) stackAddition_j12) stackAddition_j13) stackAddition_j14) stackAddition_j15) stackAddition_j16) stackAddition_j17) stackAddition_j18) stackAddition_j19) stackAddition_j20) stackAddition_j21) stackAddition_j22) stackAddition_j23) stackAddition_j24) stackAddition_j25) stackAddition_j26) stackAddition_j27) stackAddition_j28) stackAddition_j29) stackAddition_j30) stackAddition_j31) stackAddition_j32)
end Go.Proofs.YtnjpojpfiijlfaaGreat
