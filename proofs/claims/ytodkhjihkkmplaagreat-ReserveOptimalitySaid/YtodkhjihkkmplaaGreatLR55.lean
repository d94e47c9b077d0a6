/-
ReserveOptimality: what is taken stays within the rooms, sums with the shortage to the need, and no other selection of the same total costs less; for every input the law returns true and the arguments read as before. No condition beyond the statement's own.
-/
import Derived.Test.YtodkhjihkkmplaaGreatLRr1
import Derived.Test.YtodkhjihkkmplaaGreatLRv4
namespace Go.Proofs.YtodkhjihkkmplaaGreat
set_option linter.unusedVariables false
set_option linter.unusedSimpArgs false
open Go.ChangeShapes Go.WideShapes Go.ChangeAt Go.RowKit Go.Deep
open Wd

set_option maxHeartbeats 2000000 in
set_option maxRecDepth 100000 in
theorem reserveOptimality_lifted (os : Os) (started : os.Started) (H : Type) (enc : TypeId × Value → H) :
    ReturnsInHanded {} Tryz.checked os 7 .any (Rows.reserveOptimalitySpec.pre6 enc Tryz.prog Tryz.f7 Rows.reserveOptimalityRow.domain false) (Rows.reserveOptimalitySpec.post enc Tryz.prog Tryz.f7 false true false false) := by
  refine returnsInHanded_of_change (C := Tryz.checked) own started (by kernel_rfl) Tryz.func7
    (ChangeSpec.witness6 (enc := enc) (C := Tryz.checked) false ⟨#[], #[.slice none 0 0, .slice none 0 0, .slice none 0 0, .int .i64 0, .slice none 0 0], []⟩ 8 (by kernel_rfl) (by kernel_rfl) (by kernel_rfl) (by kernel_rfl)) ?_
  intro W base args ds gs before hval0 hW hcnd _
  have hval : ∀ (j : Nat) t v, Tryz.f7.params[j]? = some t → args[j]? = some v → Value.okWide Tryz.prog W .any base t v := hval0
  have hW' := hW
  obtain ⟨p, q, hA0, hV, rfl, hfz, hnd⟩ := hW
  have hA : DataW.TrodAll enc Tryz.prog W 0 (fun _ => true) true Tryz.f7.params.toList args.toList ds p := hA0
  rw [Tryz.params7] at hA hval
  obtain ⟨v0, vs0, d0, ds0, p0, q0, hargs, rfl, rfl, h0, r0⟩ := trodAll_cons hA
  obtain ⟨v1, vs1, d1, ds1, p1, q1, rfl, rfl, rfl, h1, r1⟩ := trodAll_cons r0
  obtain ⟨v2, vs2, d2, ds2, p2, q2, rfl, rfl, rfl, h2, r2⟩ := trodAll_cons r1
  obtain ⟨v3, vs3, d3, ds3, p3, q3, rfl, rfl, rfl, h3, r3⟩ := trodAll_cons r2
  obtain ⟨v4, vs4, d4, ds4, p4, q4, rfl, rfl, rfl, h4, r4⟩ := trodAll_cons r3
  obtain ⟨rfl, rfl, rfl⟩ := trodAll_nil r4
  obtain rfl : args = #[v0, v1, v2, v3, v4] := by cases args; simp_all
  obtain ⟨rfl, rfl⟩ := trodVars_none hV
  clear hA0 hval0 hcnd
  obtain ⟨a0, len0, cap0, rfl⟩ := okWide_slice Tryz.underlying22 (hval 0 22 _ rfl rfl)
  obtain ⟨fu0, hf0⟩ := h0
  obtain ⟨A0, n0, c0, x0, hcs0, g0⟩ := us_of hf0
  simp only [Value.cells] at hcs0
  obtain ⟨rfl, rfl, rfl⟩ : a0 = A0 ∧ len0 = n0 ∧ cap0 = c0 := by simpa using hcs0
  obtain ⟨a1, len1, cap1, rfl⟩ := okWide_slice Tryz.underlying23 (hval 1 23 _ rfl rfl)
  obtain ⟨fu1, hf1⟩ := h1
  obtain ⟨A1, n1, c1, x1, hcs1, g1⟩ := bs_of hf1
  simp only [Value.cells] at hcs1
  obtain ⟨rfl, rfl, rfl⟩ : a1 = A1 ∧ len1 = n1 ∧ cap1 = c1 := by simpa using hcs1
  obtain ⟨a2, len2, cap2, rfl⟩ := okWide_slice Tryz.underlying24 (hval 2 24 _ rfl rfl)
  obtain ⟨fu2, hf2⟩ := h2
  obtain ⟨A2, n2, c2, x2, hcs2, g2⟩ := qs_of hf2
  simp only [Value.cells] at hcs2
  obtain ⟨rfl, rfl, rfl⟩ : a2 = A2 ∧ len2 = n2 ∧ cap2 = c2 := by simpa using hcs2
  obtain ⟨z3, rfl, rfl, rfl, w3⟩ := open_int Tryz.underlying2 (hval 3 2 _ rfl rfl) h3
  obtain ⟨a4, len4, cap4, rfl⟩ := okWide_slice Tryz.underlying24 (hval 4 24 _ rfl rfl)
  obtain ⟨fu4, hf4⟩ := h4
  obtain ⟨A4, n4, c4, x4, hcs4, g4⟩ := qs_of hf4
  simp only [Value.cells] at hcs4
  obtain ⟨rfl, rfl, rfl⟩ : a4 = A4 ∧ len4 = n4 ∧ cap4 = c4 := by simpa using hcs4
  refine (opt30_any a0 a1 a2 a4 len0 cap0 len1 cap1 len2 cap2 len4 cap4 x0 x1 x2 x4 z3 W g0 g1 g2.1 g2.gs g4.1 g4.gs (fits_of w3)).mono fun e W' ⟨he, hb⟩ => ?_
  subst he
  exact ⟨_, rfl, post_true laidOut Tryz.underlying4 rfl (by kernel_rfl) (rowed (by kernel_rfl)) hW' rfl rfl rfl hb⟩

theorem reserveOptimality_holds : Rows.ReserveOptimalitySaid :=
  OpenClaim.holds_of_wide 7 Tryz.f7 rfl rfl rfl rfl rfl rfl rfl ⟨rfl, rfl, rfl, rfl, rfl⟩ rfl rfl rfl rfl rfl (by kernel_rfl) Tryz.func7 (by kernel_rfl)
    (of_decide_eq_true (by kernel_rfl)) (by unfold Func.isWrapper; first | (rw [if_pos (by decide +kernel)]; kernel_rfl) | (rw [if_neg (by decide +kernel)]; exact ⟨rfl, rfl⟩))
    (fun os started H enc _ => reserveOptimality_lifted os started H enc)
#print axioms reserveOptimality_holds
end Go.Proofs.YtodkhjihkkmplaaGreat
