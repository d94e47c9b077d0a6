/-
The closed facts of the row of StackPermutation. No statement of the seat is proved here; no conditions.
-/
import Derived.Test.YtnjpojpfiijlfaaGreatRB
namespace Go.Proofs.YtnjpojpfiijlfaaGreat
set_option linter.unusedVariables false
set_option linter.unusedSimpArgs false
open Go.ChangeShapes Go.WideShapes Go.ChangeAt Go.RowKit Go.Deep
open Wd
theorem andB {a b : Bool} (ha : a = true) (hb : b = true) : (a && b) = true := by rw [ha, hb]; rfl

theorem stackPermutation_j1 : (Rows.stackPermutationRow.wf (OpenSpec.ofChange Rows.stackPermutationSpec)) = true := by kernel_rfl
theorem stackPermutation_j2 : (laidOutB Tryz.prog) = true := by kernel_rfl
theorem stackPermutation_j3 : (mapsRowed Tryz.prog) = true := by kernel_rfl
theorem stackPermutation_j4 : (Tryz.f6.params.all (Tryz.prog.readableRec ·)) = true := by kernel_rfl
theorem stackPermutation_j5 : (namedTie Tryz.prog Rows.stackPermutationRow.named Rows.stackPermutationSpec.vars) = true := by kernel_rfl
theorem stackPermutation_j6 : ((Rows.stackPermutationRow.stops == [])) = true := by kernel_rfl
theorem stackPermutation_j7 : ((Tryz.prog.stops == [])) = true := by kernel_rfl
theorem stackPermutation_j8 : ((Rows.stackPermutationRow.knobs == [])) = true := by kernel_rfl
theorem stackPermutation_j9 : ((Tryz.prog.stopKnobs == [])) = true := by kernel_rfl
theorem stackPermutation_j10 : ((Rows.stackPermutationRow.inPlace == Tryz.prog.inPlace 6)) = true := by kernel_rfl
theorem stackPermutation_j11 : ((Rows.stackPermutationRow.unfollowed == Tryz.prog.unfollowed 6)) = true := by kernel_rfl
theorem stackPermutation_j12 : ((Rows.stackPermutationRow.recurses == Tryz.prog.recurses 6)) = true := by kernel_rfl
theorem stackPermutation_j13 : ((Rows.stackPermutationRow.named == Tryz.prog.varsNamed 6)) = true := by kernel_rfl
theorem stackPermutation_j14 : ((Rows.stackPermutationRow.maps == (Tryz.f6.params.toList ++ Rows.stackPermutationSpec.plain.varTypes Tryz.prog).any (Tryz.prog.mapsRec ·))) = true := by kernel_rfl
theorem stackPermutation_j15 : ((Rows.stackPermutationRow.ifaces == (Tryz.f6.params.toList ++ Rows.stackPermutationSpec.plain.varTypes Tryz.prog).any (Tryz.prog.ifacesRec ·))) = true := by kernel_rfl
theorem stackPermutation_j16 : ((Rows.stackPermutationRow.mapsOut == Tryz.prog.mapsAmong Tryz.f6.resultTypes.toList)) = true := by kernel_rfl
theorem stackPermutation_j17 : ((Rows.stackPermutationRow.loops == (Tryz.f6.params.toList ++ Rows.stackPermutationSpec.plain.varTypes Tryz.prog).any (Tryz.prog.loopsFrom ·))) = true := by kernel_rfl
theorem stackPermutation_j18 : ((Rows.stackPermutationRow.wideKeys == (Tryz.f6.params.toList ++ Rows.stackPermutationSpec.plain.varTypes Tryz.prog ++ Tryz.f6.resultTypes.toList).any (Tryz.prog.wideKeysFrom ·))) = true := by kernel_rfl
theorem stackPermutation_j19 : (Rows.stackPermutationSpec.vars.all (Tryz.prog.varReadable ·)) = true := by kernel_rfl
theorem stackPermutation_j20 : (Tryz.f6.resultTypes.all (fun t => Tryz.prog.readableRec t && decide (t < Tryz.prog.types.size))) = true := by kernel_rfl
theorem stackPermutation_j21 : ((Rows.stackPermutationRow.ifacesOut == Tryz.f6.resultTypes.toList.any (Tryz.prog.ifacesRec ·))) = true := by kernel_rfl
theorem stackPermutation_j22 : ((Rows.stackPermutationRow.loopsOut == Tryz.f6.resultTypes.toList.any (Tryz.prog.loopsFrom ·))) = true := by kernel_rfl
theorem stackPermutation_j23 : ((Rows.stackPermutationRow.plainKeys == Tryz.prog.plainKeys)) = true := by kernel_rfl
theorem stackPermutation_j24 : (Rows.stackPermutationRow.shortTexts.isNone) = true := by kernel_rfl
theorem stackPermutation_j25 : (Tryz.prog.stopsHeard) = true := by kernel_rfl
theorem stackPermutation_j26 : (Tryz.prog.mayEnter) = true := by kernel_rfl
theorem stackPermutation_j27 : ((Rows.stackPermutationRow.lifted == Tryz.prog.liftsFinal)) = true := by kernel_rfl
theorem stackPermutation_j28 : ((Tryz.prog.make == some Rows.stackPermutationRow.make)) = true := by kernel_rfl
theorem stackPermutation_j29 : ((Rows.stackPermutationRow.kinds == (if Rows.stackPermutationRow.domain.isEmpty then [] else Tryz.f6.params.toList.map fun t => match Tryz.prog.underlying t with | some (.int k) => some k | _ => none))) = true := by kernel_rfl
theorem stackPermutation_j30 : ((Rows.stackPermutationRow.pinned == Rows.stackPermutationRow.pinnedBy)) = true := by kernel_rfl
theorem stackPermutation_j31 : ((Rows.stackPermutationRow.veiled == (Tryz.f6.params.toList ++ Rows.stackPermutationSpec.plain.varTypes Tryz.prog ++ Tryz.f6.resultTypes.toList).any (Tryz.prog.veiledRec ·))) = true := by kernel_rfl
theorem stackPermutation_j32 : (Rows.stackPermutationRow.veiledFits Tryz.prog Tryz.f6.params.toList (Tryz.f6.params.toList ++ Rows.stackPermutationSpec.plain.varTypes Tryz.prog ++ Tryz.f6.resultTypes.toList)) = true := by kernel_rfl
set_option maxRecDepth 100000 in
theorem stackPermutation_closed : joinedFacts Tryz.prog 6 Tryz.f6 Rows.stackPermutationSpec Rows.stackPermutationRow = true := by
  unfold joinedFacts
  exact (andB (andB (andB (andB (andB (andB (andB (andB (andB (andB (andB (andB (andB (andB (andB (andB (andB (andB (andB (andB (andB (andB (andB (andB (andB (andB (andB (andB (andB (andB (andB stackPermutation_j1 stackPermutation_j2) stackPermutation_j3) stackPermutation_j4) stackPermutation_j5) stackPermutation_j6) stackPermutation_j7) stackPermutation_j8) stackPermutation_j9) stackPermutation_j10) stackPermutation_j11) stackPermutation_j12) stackPermutation_j13) stackPermutation_j14) stackPermutation_j15) stackPermutation_j16) stackPermutation_j17) stackPermutation_j18) stackPermutation_j19) stackPermutation_j20) stackPermutation_j21) stackPermutation_j22) stackPermutation_j23) stackPermutation_j24) stackPermutation_j25) stackPermutation_j26) stackPermutation_j27) stackPermutation_j28) stackPermutation_j29) stackPermutation_j30) stackPermutation_j31) stackPermutation_j32)
end Go.Proofs.YtnjpojpfiijlfaaGreat
