/-
The closed facts of the row of ClearMonotone. No statement of the seat is proved here; no conditions.
-/
import Derived.Test.YtnjpojpfiijlfaaGreatR21a
namespace Go.Proofs.YtnjpojpfiijlfaaGreat
set_option linter.unusedVariables false
set_option linter.unusedSimpArgs false
open Go.ChangeShapes Go.WideShapes Go.ChangeAt Go.RowKit Go.Deep
open Wd

theorem clearMonotone_j1 : (Rows.clearMonotoneRow.wf (OpenSpec.ofChange Rows.clearMonotoneSpec)) = true := by kernel_rfl
theorem clearMonotone_j2 : (laidOutB Tryz.prog) = true := stackPermutation_j2
theorem clearMonotone_j3 : (mapsRowed Tryz.prog) = true := stackPermutation_j3
theorem clearMonotone_j4 : (Tryz.f12.params.all (Tryz.prog.readableRec ·)) = true := by kernel_rfl
theorem clearMonotone_j5 : (namedTie Tryz.prog Rows.clearMonotoneRow.named Rows.clearMonotoneSpec.vars) = true := by kernel_rfl
theorem clearMonotone_j6 : ((Rows.clearMonotoneRow.stops == [])) = true := by kernel_rfl
theorem clearMonotone_j7 : ((Tryz.prog.stops == [])) = true := stackPermutation_j7
theorem clearMonotone_j8 : ((Rows.clearMonotoneRow.knobs == [])) = true := by kernel_rfl
theorem clearMonotone_j9 : ((Tryz.prog.stopKnobs == [])) = true := stackPermutation_j9
theorem clearMonotone_j10 : ((Rows.clearMonotoneRow.inPlace == Tryz.prog.inPlace 12)) = true := by kernel_rfl
theorem clearMonotone_j11 : ((Rows.clearMonotoneRow.unfollowed == Tryz.prog.unfollowed 12)) = true := by kernel_rfl
theorem clearMonotone_j12 : ((Rows.clearMonotoneRow.recurses == Tryz.prog.recurses 12)) = true := by kernel_rfl
theorem clearMonotone_j13 : ((Rows.clearMonotoneRow.named == Tryz.prog.varsNamed 12)) = true := by kernel_rfl
theorem clearMonotone_j14 : ((Rows.clearMonotoneRow.maps == (Tryz.f12.params.toList ++ Rows.clearMonotoneSpec.plain.varTypes Tryz.prog).any (Tryz.prog.mapsRec ·))) = true := by kernel_rfl
theorem clearMonotone_j15 : ((Rows.clearMonotoneRow.ifaces == (Tryz.f12.params.toList ++ Rows.clearMonotoneSpec.plain.varTypes Tryz.prog).any (Tryz.prog.ifacesRec ·))) = true := by kernel_rfl
theorem clearMonotone_j16 : ((Rows.clearMonotoneRow.mapsOut == Tryz.prog.mapsAmong Tryz.f12.resultTypes.toList)) = true := by kernel_rfl
theorem clearMonotone_j17 : ((Rows.clearMonotoneRow.loops == (Tryz.f12.params.toList ++ Rows.clearMonotoneSpec.plain.varTypes Tryz.prog).any (Tryz.prog.loopsFrom ·))) = true := by kernel_rfl
theorem clearMonotone_j18 : ((Rows.clearMonotoneRow.wideKeys == (Tryz.f12.params.toList ++ Rows.clearMonotoneSpec.plain.varTypes Tryz.prog ++ Tryz.f12.resultTypes.toList).any (Tryz.prog.wideKeysFrom ·))) = true := by kernel_rfl
theorem clearMonotone_j19 : (Rows.clearMonotoneSpec.vars.all (Tryz.prog.varReadable ·)) = true := by kernel_rfl
theorem clearMonotone_j20 : (Tryz.f12.resultTypes.all (fun t => Tryz.prog.readableRec t && decide (t < Tryz.prog.types.size))) = true := by kernel_rfl
theorem clearMonotone_j21 : ((Rows.clearMonotoneRow.ifacesOut == Tryz.f12.resultTypes.toList.any (Tryz.prog.ifacesRec ·))) = true := by kernel_rfl
theorem clearMonotone_j22 : ((Rows.clearMonotoneRow.loopsOut == Tryz.f12.resultTypes.toList.any (Tryz.prog.loopsFrom ·))) = true := by kernel_rfl
theorem clearMonotone_j23 : ((Rows.clearMonotoneRow.plainKeys == Tryz.prog.plainKeys)) = true := stackPermutation_j23
theorem clearMonotone_j24 : (Rows.clearMonotoneRow.shortTexts.isNone) = true := by kernel_rfl
theorem clearMonotone_j25 : (Tryz.prog.stopsHeard) = true := stackPermutation_j25
theorem clearMonotone_j26 : (Tryz.prog.mayEnter) = true := stackPermutation_j26
theorem clearMonotone_j27 : ((Rows.clearMonotoneRow.lifted == Tryz.prog.liftsFinal)) = true := stackPermutation_j27
theorem clearMonotone_j28 : ((Tryz.prog.make == some Rows.clearMonotoneRow.make)) = true := stackPermutation_j28
theorem clearMonotone_j29 : ((Rows.clearMonotoneRow.kinds == (if Rows.clearMonotoneRow.domain.isEmpty then [] else Tryz.f12.params.toList.map fun t => match Tryz.prog.underlying t with | some (.int k) => some k | _ => none))) = true := by kernel_rfl
theorem clearMonotone_j30 : ((Rows.clearMonotoneRow.pinned == Rows.clearMonotoneRow.pinnedBy)) = true := by kernel_rfl
theorem clearMonotone_j31 : ((Rows.clearMonotoneRow.veiled == (Tryz.f12.params.toList ++ Rows.clearMonotoneSpec.plain.varTypes Tryz.prog ++ Tryz.f12.resultTypes.toList).any (Tryz.prog.veiledRec ·))) = true := by kernel_rfl
theorem clearMonotone_j32 : (Rows.clearMonotoneRow.veiledFits Tryz.prog Tryz.f12.params.toList (Tryz.f12.params.toList ++ Rows.clearMonotoneSpec.plain.varTypes Tryz.prog ++ Tryz.f12.resultTypes.toList)) = true := by kernel_rfl
set_option maxRecDepth 100000 in
theorem clearMonotone_closed : joinedFacts Tryz.prog 12 Tryz.f12 Rows.clearMonotoneSpec Rows.clearMonotoneRow = true := by
  unfold joinedFacts
  exact (andB (andB (andB (andB (andB (andB (andB (andB (andB (andB (andB (andB (andB (andB (andB (andB (andB (andB (andB (andB (andB (andB (andB (andB (andB (andB (andB (andB (andB (andB (andB clearMonotone_j1 clearMonotone_j2) clearMonotone_j3) clearMonotone_j4) clearMonotone_j5) clearMonotone_j6) clearMonotone_j7) clearMonotone_j8) clearMonotone_j9) clearMonotone_j10) clearMonotone_j11) clearMonotone_j12) clearMonotone_j13) clearMonotone_j14) clearMonotone_j15) clearMonotone_j16) clearMonotone_j17) clearMonotone_j18) clearMonotone_j19) clearMonotone_j20) clearMonotone_j21) clearMonotone_j22) clearMonotone_j23) clearMonotone_j24) clearMonotone_j25) clearMonotone_j26) clearMonotone_j27) clearMonotone_j28) clearMonotone_j29) clearMonotone_j30) clearMonotone_j31) clearMonotone_j32)
end Go.Proofs.YtnjpojpfiijlfaaGreat
