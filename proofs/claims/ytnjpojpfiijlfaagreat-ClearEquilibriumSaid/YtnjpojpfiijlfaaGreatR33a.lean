/-
The closed facts of the row of ClearEquilibrium. No statement of the seat is proved here; no conditions.
-/
import Derived.Test.YtnjpojpfiijlfaaGreatR21a
namespace Go.Proofs.YtnjpojpfiijlfaaGreat
set_option linter.unusedVariables false
set_option linter.unusedSimpArgs false
open Go.ChangeShapes Go.WideShapes Go.ChangeAt Go.RowKit Go.Deep
open Wd

theorem clearEquilibrium_j1 : (Rows.clearEquilibriumRow.wf (OpenSpec.ofChange Rows.clearEquilibriumSpec)) = true := by kernel_rfl
theorem clearEquilibrium_j2 : (laidOutB Tryz.prog) = true := stackPermutation_j2
theorem clearEquilibrium_j3 : (mapsRowed Tryz.prog) = true := stackPermutation_j3
theorem clearEquilibrium_j4 : (Tryz.f17.params.all (Tryz.prog.readableRec ·)) = true := by kernel_rfl
theorem clearEquilibrium_j5 : (namedTie Tryz.prog Rows.clearEquilibriumRow.named Rows.clearEquilibriumSpec.vars) = true := by kernel_rfl
theorem clearEquilibrium_j6 : ((Rows.clearEquilibriumRow.stops == [])) = true := by kernel_rfl
theorem clearEquilibrium_j7 : ((Tryz.prog.stops == [])) = true := stackPermutation_j7
theorem clearEquilibrium_j8 : ((Rows.clearEquilibriumRow.knobs == [])) = true := by kernel_rfl
theorem clearEquilibrium_j9 : ((Tryz.prog.stopKnobs == [])) = true := stackPermutation_j9
theorem clearEquilibrium_j10 : ((Rows.clearEquilibriumRow.inPlace == Tryz.prog.inPlace 17)) = true := by kernel_rfl
theorem clearEquilibrium_j11 : ((Rows.clearEquilibriumRow.unfollowed == Tryz.prog.unfollowed 17)) = true := by kernel_rfl
theorem clearEquilibrium_j12 : ((Rows.clearEquilibriumRow.recurses == Tryz.prog.recurses 17)) = true := by kernel_rfl
theorem clearEquilibrium_j13 : ((Rows.clearEquilibriumRow.named == Tryz.prog.varsNamed 17)) = true := by kernel_rfl
theorem clearEquilibrium_j14 : ((Rows.clearEquilibriumRow.maps == (Tryz.f17.params.toList ++ Rows.clearEquilibriumSpec.plain.varTypes Tryz.prog).any (Tryz.prog.mapsRec ·))) = true := by kernel_rfl
theorem clearEquilibrium_j15 : ((Rows.clearEquilibriumRow.ifaces == (Tryz.f17.params.toList ++ Rows.clearEquilibriumSpec.plain.varTypes Tryz.prog).any (Tryz.prog.ifacesRec ·))) = true := by kernel_rfl
theorem clearEquilibrium_j16 : ((Rows.clearEquilibriumRow.mapsOut == Tryz.prog.mapsAmong Tryz.f17.resultTypes.toList)) = true := by kernel_rfl
theorem clearEquilibrium_j17 : ((Rows.clearEquilibriumRow.loops == (Tryz.f17.params.toList ++ Rows.clearEquilibriumSpec.plain.varTypes Tryz.prog).any (Tryz.prog.loopsFrom ·))) = true := by kernel_rfl
theorem clearEquilibrium_j18 : ((Rows.clearEquilibriumRow.wideKeys == (Tryz.f17.params.toList ++ Rows.clearEquilibriumSpec.plain.varTypes Tryz.prog ++ Tryz.f17.resultTypes.toList).any (Tryz.prog.wideKeysFrom ·))) = true := by kernel_rfl
theorem clearEquilibrium_j19 : (Rows.clearEquilibriumSpec.vars.all (Tryz.prog.varReadable ·)) = true := by kernel_rfl
theorem clearEquilibrium_j20 : (Tryz.f17.resultTypes.all (fun t => Tryz.prog.readableRec t && decide (t < Tryz.prog.types.size))) = true := by kernel_rfl
theorem clearEquilibrium_j21 : ((Rows.clearEquilibriumRow.ifacesOut == Tryz.f17.resultTypes.toList.any (Tryz.prog.ifacesRec ·))) = true := by kernel_rfl
theorem clearEquilibrium_j22 : ((Rows.clearEquilibriumRow.loopsOut == Tryz.f17.resultTypes.toList.any (Tryz.prog.loopsFrom ·))) = true := by kernel_rfl
theorem clearEquilibrium_j23 : ((Rows.clearEquilibriumRow.plainKeys == Tryz.prog.plainKeys)) = true := stackPermutation_j23
theorem clearEquilibrium_j24 : (Rows.clearEquilibriumRow.shortTexts.isNone) = true := by kernel_rfl
theorem clearEquilibrium_j25 : (Tryz.prog.stopsHeard) = true := stackPermutation_j25
theorem clearEquilibrium_j26 : (Tryz.prog.mayEnter) = true := stackPermutation_j26
theorem clearEquilibrium_j27 : ((Rows.clearEquilibriumRow.lifted == Tryz.prog.liftsFinal)) = true := stackPermutation_j27
theorem clearEquilibrium_j28 : ((Tryz.prog.make == some Rows.clearEquilibriumRow.make)) = true := stackPermutation_j28
theorem clearEquilibrium_j29 : ((Rows.clearEquilibriumRow.kinds == (if Rows.clearEquilibriumRow.domain.isEmpty then [] else Tryz.f17.params.toList.map fun t => match Tryz.prog.underlying t with | some (.int k) => some k | _ => none))) = true := by kernel_rfl
theorem clearEquilibrium_j30 : ((Rows.clearEquilibriumRow.pinned == Rows.clearEquilibriumRow.pinnedBy)) = true := by kernel_rfl
theorem clearEquilibrium_j31 : ((Rows.clearEquilibriumRow.veiled == (Tryz.f17.params.toList ++ Rows.clearEquilibriumSpec.plain.varTypes Tryz.prog ++ Tryz.f17.resultTypes.toList).any (Tryz.prog.veiledRec ·))) = true := by kernel_rfl
theorem clearEquilibrium_j32 : (Rows.clearEquilibriumRow.veiledFits Tryz.prog Tryz.f17.params.toList (Tryz.f17.params.toList ++ Rows.clearEquilibriumSpec.plain.varTypes Tryz.prog ++ Tryz.f17.resultTypes.toList)) = true := by kernel_rfl
set_option maxRecDepth 100000 in
theorem clearEquilibrium_closed : joinedFacts Tryz.prog 17 Tryz.f17 Rows.clearEquilibriumSpec Rows.clearEquilibriumRow = true := by
  unfold joinedFacts
  exact (andB (andB (andB (andB (andB (andB (andB (andB (andB (andB (andB (andB (andB (andB (andB (andB (andB (andB (andB (andB (andB (andB (andB (andB (andB (andB (andB (andB (andB (andB (andB clearEquilibrium_j1 clearEquilibrium_j2) clearEquilibrium_j3) clearEquilibrium_j4) clearEquilibrium_j5) clearEquilibrium_j6) clearEquilibrium_j7) clearEquilibrium_j8) clearEquilibrium_j9) clearEquilibrium_j10) clearEquilibrium_j11) clearEquilibrium_j12) clearEquilibrium_j13) clearEquilibrium_j14) clearEquilibrium_j15) clearEquilibrium_j16) clearEquilibrium_j17) clearEquilibrium_j18) clearEquilibrium_j19) clearEquilibrium_j20) clearEquilibrium_j21) clearEquilibrium_j22) clearEquilibrium_j23) clearEquilibrium_j24) clearEquilibrium_j25) clearEquilibrium_j26) clearEquilibrium_j27) clearEquilibrium_j28) clearEquilibrium_j29) clearEquilibrium_j30) clearEquilibrium_j31) clearEquilibrium_j32)
end Go.Proofs.YtnjpojpfiijlfaaGreat
