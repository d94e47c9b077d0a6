/-
The closed facts of the row of ClearDuality. No statement of the seat is proved here; no conditions.
-/
import Derived.Test.YtnjpojpfiijlfaaGreatR21a
namespace Go.Proofs.YtnjpojpfiijlfaaGreat
set_option linter.unusedVariables false
set_option linter.unusedSimpArgs false
open Go.ChangeShapes Go.WideShapes Go.ChangeAt Go.RowKit Go.Deep
open Wd

theorem clearDuality_j1 : (Rows.clearDualityRow.wf (OpenSpec.ofChange Rows.clearDualitySpec)) = true := by kernel_rfl
theorem clearDuality_j2 : (laidOutB Tryz.prog) = true := stackPermutation_j2
theorem clearDuality_j3 : (mapsRowed Tryz.prog) = true := stackPermutation_j3
theorem clearDuality_j4 : (Tryz.f14.params.all (Tryz.prog.readableRec ·)) = true := by kernel_rfl
theorem clearDuality_j5 : (namedTie Tryz.prog Rows.clearDualityRow.named Rows.clearDualitySpec.vars) = true := by kernel_rfl
theorem clearDuality_j6 : ((Rows.clearDualityRow.stops == [])) = true := by kernel_rfl
theorem clearDuality_j7 : ((Tryz.prog.stops == [])) = true := stackPermutation_j7
theorem clearDuality_j8 : ((Rows.clearDualityRow.knobs == [])) = true := by kernel_rfl
theorem clearDuality_j9 : ((Tryz.prog.stopKnobs == [])) = true := stackPermutation_j9
theorem clearDuality_j10 : ((Rows.clearDualityRow.inPlace == Tryz.prog.inPlace 14)) = true := by kernel_rfl
theorem clearDuality_j11 : ((Rows.clearDualityRow.unfollowed == Tryz.prog.unfollowed 14)) = true := by kernel_rfl
theorem clearDuality_j12 : ((Rows.clearDualityRow.recurses == Tryz.prog.recurses 14)) = true := by kernel_rfl
theorem clearDuality_j13 : ((Rows.clearDualityRow.named == Tryz.prog.varsNamed 14)) = true := by kernel_rfl
theorem clearDuality_j14 : ((Rows.clearDualityRow.maps == (Tryz.f14.params.toList ++ Rows.clearDualitySpec.plain.varTypes Tryz.prog).any (Tryz.prog.mapsRec ·))) = true := by kernel_rfl
theorem clearDuality_j15 : ((Rows.clearDualityRow.ifaces == (Tryz.f14.params.toList ++ Rows.clearDualitySpec.plain.varTypes Tryz.prog).any (Tryz.prog.ifacesRec ·))) = true := by kernel_rfl
theorem clearDuality_j16 : ((Rows.clearDualityRow.mapsOut == Tryz.prog.mapsAmong Tryz.f14.resultTypes.toList)) = true := by kernel_rfl
theorem clearDuality_j17 : ((Rows.clearDualityRow.loops == (Tryz.f14.params.toList ++ Rows.clearDualitySpec.plain.varTypes Tryz.prog).any (Tryz.prog.loopsFrom ·))) = true := by kernel_rfl
theorem clearDuality_j18 : ((Rows.clearDualityRow.wideKeys == (Tryz.f14.params.toList ++ Rows.clearDualitySpec.plain.varTypes Tryz.prog ++ Tryz.f14.resultTypes.toList).any (Tryz.prog.wideKeysFrom ·))) = true := by kernel_rfl
theorem clearDuality_j19 : (Rows.clearDualitySpec.vars.all (Tryz.prog.varReadable ·)) = true := by kernel_rfl
theorem clearDuality_j20 : (Tryz.f14.resultTypes.all (fun t => Tryz.prog.readableRec t && decide (t < Tryz.prog.types.size))) = true := by kernel_rfl
theorem clearDuality_j21 : ((Rows.clearDualityRow.ifacesOut == Tryz.f14.resultTypes.toList.any (Tryz.prog.ifacesRec ·))) = true := by kernel_rfl
theorem clearDuality_j22 : ((Rows.clearDualityRow.loopsOut == Tryz.f14.resultTypes.toList.any (Tryz.prog.loopsFrom ·))) = true := by kernel_rfl
theorem clearDuality_j23 : ((Rows.clearDualityRow.plainKeys == Tryz.prog.plainKeys)) = true := stackPermutation_j23
theorem clearDuality_j24 : (Rows.clearDualityRow.shortTexts.isNone) = true := by kernel_rfl
theorem clearDuality_j25 : (Tryz.prog.stopsHeard) = true := stackPermutation_j25
theorem clearDuality_j26 : (Tryz.prog.mayEnter) = true := stackPermutation_j26
theorem clearDuality_j27 : ((Rows.clearDualityRow.lifted == Tryz.prog.liftsFinal)) = true := stackPermutation_j27
theorem clearDuality_j28 : ((Tryz.prog.make == some Rows.clearDualityRow.make)) = true := stackPermutation_j28
theorem clearDuality_j29 : ((Rows.clearDualityRow.kinds == (if Rows.clearDualityRow.domain.isEmpty then [] else Tryz.f14.params.toList.map fun t => match Tryz.prog.underlying t with | some (.int k) => some k | _ => none))) = true := by kernel_rfl
theorem clearDuality_j30 : ((Rows.clearDualityRow.pinned == Rows.clearDualityRow.pinnedBy)) = true := by kernel_rfl
theorem clearDuality_j31 : ((Rows.clearDualityRow.veiled == (Tryz.f14.params.toList ++ Rows.clearDualitySpec.plain.varTypes Tryz.prog ++ Tryz.f14.resultTypes.toList).any (Tryz.prog.veiledRec ·))) = true := by kernel_rfl
theorem clearDuality_j32 : (Rows.clearDualityRow.veiledFits Tryz.prog Tryz.f14.params.toList (Tryz.f14.params.toList ++ Rows.clearDualitySpec.plain.varTypes Tryz.prog ++ Tryz.f14.resultTypes.toList)) = true := by kernel_rfl
set_option maxRecDepth 100000 in
theorem clearDuality_closed : joinedFacts Tryz.prog 14 Tryz.f14 Rows.clearDualitySpec Rows.clearDualityRow = true := by
  unfold joinedFacts
  exact (andB (andB (andB (andB (andB (andB (andB (andB (andB (andB (andB (andB (andB (andB (andB (andB (andB (andB (andB (andB (andB (andB (andB (andB (andB (andB (andB (andB (andB (andB (andB clearDuality_j1 clearDuality_j2) clearDuality_j3) clearDuality_j4) clearDuality_j5) clearDuality_j6) clearDuality_j7) clearDuality_j8) clearDuality_j9) clearDuality_j10) clearDuality_j11) clearDuality_j12) clearDuality_j13) clearDuality_j14) clearDuality_j15) clearDuality_j16) clearDuality_j17) clearDuality_j18) clearDuality_j19) clearDuality_j20) clearDuality_j21) clearDuality_j22) clearDuality_j23) clearDuality_j24) clearDuality_j25) clearDuality_j26) clearDuality_j27) clearDuality_j28) clearDuality_j29) clearDuality_j30) clearDuality_j31) clearDuality_j32)
end Go.Proofs.YtnjpojpfiijlfaaGreat
