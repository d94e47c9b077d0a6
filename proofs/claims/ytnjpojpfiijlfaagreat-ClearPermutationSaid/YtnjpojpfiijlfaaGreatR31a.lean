/-
The closed facts of the row of ClearPermutation. No statement of the seat is proved here; no conditions.
-/
import Derived.Test.YtnjpojpfiijlfaaGreatR21a
namespace Go.Proofs.YtnjpojpfiijlfaaGreat
set_option linter.unusedVariables false
set_option linter.unusedSimpArgs false
open Go.ChangeShapes Go.WideShapes Go.ChangeAt Go.RowKit Go.Deep
open Wd

theorem clearPermutation_j1 : (Rows.clearPermutationRow.wf (OpenSpec.ofChange Rows.clearPermutationSpec)) = true := by kernel_rfl
theorem clearPermutation_j2 : (laidOutB Tryz.prog) = true := stackPermutation_j2
theorem clearPermutation_j3 : (mapsRowed Tryz.prog) = true := stackPermutation_j3
theorem clearPermutation_j4 : (Tryz.f13.params.all (Tryz.prog.readableRec ·)) = true := by kernel_rfl
theorem clearPermutation_j5 : (namedTie Tryz.prog Rows.clearPermutationRow.named Rows.clearPermutationSpec.vars) = true := by kernel_rfl
theorem clearPermutation_j6 : ((Rows.clearPermutationRow.stops == [])) = true := by kernel_rfl
theorem clearPermutation_j7 : ((Tryz.prog.stops == [])) = true := stackPermutation_j7
theorem clearPermutation_j8 : ((Rows.clearPermutationRow.knobs == [])) = true := by kernel_rfl
theorem clearPermutation_j9 : ((Tryz.prog.stopKnobs == [])) = true := stackPermutation_j9
theorem clearPermutation_j10 : ((Rows.clearPermutationRow.inPlace == Tryz.prog.inPlace 13)) = true := by kernel_rfl
theorem clearPermutation_j11 : ((Rows.clearPermutationRow.unfollowed == Tryz.prog.unfollowed 13)) = true := by kernel_rfl
theorem clearPermutation_j12 : ((Rows.clearPermutationRow.recurses == Tryz.prog.recurses 13)) = true := by kernel_rfl
theorem clearPermutation_j13 : ((Rows.clearPermutationRow.named == Tryz.prog.varsNamed 13)) = true := by kernel_rfl
theorem clearPermutation_j14 : ((Rows.clearPermutationRow.maps == (Tryz.f13.params.toList ++ Rows.clearPermutationSpec.plain.varTypes Tryz.prog).any (Tryz.prog.mapsRec ·))) = true := by kernel_rfl
theorem clearPermutation_j15 : ((Rows.clearPermutationRow.ifaces == (Tryz.f13.params.toList ++ Rows.clearPermutationSpec.plain.varTypes Tryz.prog).any (Tryz.prog.ifacesRec ·))) = true := by kernel_rfl
theorem clearPermutation_j16 : ((Rows.clearPermutationRow.mapsOut == Tryz.prog.mapsAmong Tryz.f13.resultTypes.toList)) = true := by kernel_rfl
theorem clearPermutation_j17 : ((Rows.clearPermutationRow.loops == (Tryz.f13.params.toList ++ Rows.clearPermutationSpec.plain.varTypes Tryz.prog).any (Tryz.prog.loopsFrom ·))) = true := by kernel_rfl
theorem clearPermutation_j18 : ((Rows.clearPermutationRow.wideKeys == (Tryz.f13.params.toList ++ Rows.clearPermutationSpec.plain.varTypes Tryz.prog ++ Tryz.f13.resultTypes.toList).any (Tryz.prog.wideKeysFrom ·))) = true := by kernel_rfl
theorem clearPermutation_j19 : (Rows.clearPermutationSpec.vars.all (Tryz.prog.varReadable ·)) = true := by kernel_rfl
theorem clearPermutation_j20 : (Tryz.f13.resultTypes.all (fun t => Tryz.prog.readableRec t && decide (t < Tryz.prog.types.size))) = true := by kernel_rfl
theorem clearPermutation_j21 : ((Rows.clearPermutationRow.ifacesOut == Tryz.f13.resultTypes.toList.any (Tryz.prog.ifacesRec ·))) = true := by kernel_rfl
theorem clearPermutation_j22 : ((Rows.clearPermutationRow.loopsOut == Tryz.f13.resultTypes.toList.any (Tryz.prog.loopsFrom ·))) = true := by kernel_rfl
theorem clearPermutation_j23 : ((Rows.clearPermutationRow.plainKeys == Tryz.prog.plainKeys)) = true := stackPermutation_j23
theorem clearPermutation_j24 : (Rows.clearPermutationRow.shortTexts.isNone) = true := by kernel_rfl
theorem clearPermutation_j25 : (Tryz.prog.stopsHeard) = true := stackPermutation_j25
theorem clearPermutation_j26 : (Tryz.prog.mayEnter) = true := stackPermutation_j26
theorem clearPermutation_j27 : ((Rows.clearPermutationRow.lifted == Tryz.prog.liftsFinal)) = true := stackPermutation_j27
theorem clearPermutation_j28 : ((Tryz.prog.make == some Rows.clearPermutationRow.make)) = true := stackPermutation_j28
theorem clearPermutation_j29 : ((Rows.clearPermutationRow.kinds == (if Rows.clearPermutationRow.domain.isEmpty then [] else Tryz.f13.params.toList.map fun t => match Tryz.prog.underlying t with | some (.int k) => some k | _ => none))) = true := by kernel_rfl
theorem clearPermutation_j30 : ((Rows.clearPermutationRow.pinned == Rows.clearPermutationRow.pinnedBy)) = true := by kernel_rfl
theorem clearPermutation_j31 : ((Rows.clearPermutationRow.veiled == (Tryz.f13.params.toList ++ Rows.clearPermutationSpec.plain.varTypes Tryz.prog ++ Tryz.f13.resultTypes.toList).any (Tryz.prog.veiledRec ·))) = true := by kernel_rfl
theorem clearPermutation_j32 : (Rows.clearPermutationRow.veiledFits Tryz.prog Tryz.f13.params.toList (Tryz.f13.params.toList ++ Rows.clearPermutationSpec.plain.varTypes Tryz.prog ++ Tryz.f13.resultTypes.toList)) = true := by kernel_rfl
set_option maxRecDepth 100000 in
theorem clearPermutation_closed : joinedFacts Tryz.prog 13 Tryz.f13 Rows.clearPermutationSpec Rows.clearPermutationRow = true := by
  unfold joinedFacts
  exact (andB (andB (andB (andB (andB (andB (andB (andB (andB (andB (andB (andB (andB (andB (andB (andB (andB (andB (andB (andB (andB (andB (andB (andB (andB (andB (andB (andB (andB (andB (andB clearPermutation_j1 clearPermutation_j2) clearPermutation_j3) clearPermutation_j4) clearPermutation_j5) clearPermutation_j6) clearPermutation_j7) clearPermutation_j8) clearPermutation_j9) clearPermutation_j10) clearPermutation_j11) clearPermutation_j12) clearPermutation_j13) clearPermutation_j14) clearPermutation_j15) clearPermutation_j16) clearPermutation_j17) clearPermutation_j18) clearPermutation_j19) clearPermutation_j20) clearPermutation_j21) clearPermutation_j22) clearPermutation_j23) clearPermutation_j24) clearPermutation_j25) clearPermutation_j26) clearPermutation_j27) clearPermutation_j28) clearPermutation_j29) clearPermutation_j30) clearPermutation_j31) clearPermutation_j32)
end Go.Proofs.YtnjpojpfiijlfaaGreat
