/-
ClearOptimality: no trade has a greater welfare than Run's, and no trade of equal welfare is lexicographically less; for every input the law returns true and the arguments read as before. No condition beyond the statement's own.
-/
import Derived.Test.YtjajigkacccdgaaGreatTcBY
namespace Go.Proofs.YtjajigkacccdgaaGreat
set_option linter.unusedVariables false
set_option linter.unusedSimpArgs false
open Go.ChangeShapes Go.WideShapes Go.ChangeAt Go.RowKit Go.Deep
open Wd

set_option maxHeartbeats 2000000 in
set_option maxRecDepth 100000 in
theorem clearOptimality_lifted (os : Os) (started : os.Started) (H : Type) (enc : TypeId × Value → H) :
  ReturnsInHanded {} Tryz.checked os 9 .any (Rows.clearOptimalitySpec.pre6 enc Tryz.prog Tryz.f9 Rows.clearOptimalityRow.domain false) (Rows.clearOptimalitySpec.post enc Tryz.prog Tryz.f9 false true false false) := by
 refine returnsInHanded_of_change (C := Tryz.checked) own started (by kernel_rfl) Tryz.func9
  (ChangeSpec.witness6 (enc := enc) (C := Tryz.checked) false ⟨#[], #[.slice none 0 0, .slice none 0 0, .slice none 0 0, .slice none 0 0], []⟩ 8 (by kernel_rfl) (by kernel_rfl) (by kernel_rfl) (by kernel_rfl)) ?_
 intro W base args ds gs before hval0 hW hcnd _
 have hval : ∀ (j : Nat) t v, Tryz.f9.params[j]? = some t → args[j]? = some v → Value.okWide Tryz.prog W .any base t v := hval0
 have hW' := hW
 obtain ⟨p, q, hA0, hV, rfl, hfz, hnd⟩ := hW
 have hA : DataW.TrodAll enc Tryz.prog W 0 (fun _ => true) true Tryz.f9.params.toList args.toList ds p := hA0
 rw [Tryz.params9] at hA hval
 obtain ⟨v0, vs0, d0, ds0, p0, q0, hargs, rfl, rfl, h0, r0⟩ := trodAll_cons hA
 obtain ⟨v1, vs1, d1, ds1, p1, q1, rfl, rfl, rfl, h1, r1⟩ := trodAll_cons r0
 obtain ⟨v2, vs2, d2, ds2, p2, q2, rfl, rfl, rfl, h2, r2⟩ := trodAll_cons r1
 obtain ⟨v3, vs3, d3, ds3, p3, q3, rfl, rfl, rfl, h3, r3⟩ := trodAll_cons r2
 obtain ⟨rfl, rfl, rfl⟩ := trodAll_nil r3
 obtain rfl : args = #[v0, v1, v2, v3] := by cases args; simp_all
 obtain ⟨rfl, rfl⟩ := trodVars_none hV
 clear hA0 hval0 hcnd
 obtain ⟨a0, len0, cap0, rfl⟩ := okWide_slice Tryz.underlying22 (hval 0 22 _ rfl rfl)
 obtain ⟨fu0, hf0⟩ := h0
 obtain ⟨A0, n0, c0, x0, hcs0, g0⟩ := css_of hf0
 simp only [Value.cells] at hcs0
 obtain ⟨rfl, rfl, rfl⟩ : a0 = A0 ∧ len0 = n0 ∧ cap0 = c0 := by simpa using hcs0
 obtain ⟨a1, len1, cap1, rfl⟩ := okWide_slice Tryz.underlying22 (hval 1 22 _ rfl rfl)
 obtain ⟨fu1, hf1⟩ := h1
 obtain ⟨A1, n1, c1, x1, hcs1, g1⟩ := css_of hf1
 simp only [Value.cells] at hcs1
 obtain ⟨rfl, rfl, rfl⟩ : a1 = A1 ∧ len1 = n1 ∧ cap1 = c1 := by simpa using hcs1
 obtain ⟨a2, len2, cap2, rfl⟩ := okWide_slice Tryz.underlying46 (hval 2 46 _ rfl rfl)
 obtain ⟨fu2, hf2⟩ := h2
 obtain ⟨A2, n2, c2, x2, hcs2, g2⟩ := qs_of hf2
 simp only [Value.cells] at hcs2
 obtain ⟨rfl, rfl, rfl⟩ : a2 = A2 ∧ len2 = n2 ∧ cap2 = c2 := by simpa using hcs2
 obtain ⟨a3, len3, cap3, rfl⟩ := okWide_slice Tryz.underlying46 (hval 3 46 _ rfl rfl)
 obtain ⟨fu3, hf3⟩ := h3
 obtain ⟨A3, n3, c3, x3, hcs3, g3⟩ := qs_of hf3
 simp only [Value.cells] at hcs3
 obtain ⟨rfl, rfl, rfl⟩ : a3 = A3 ∧ len3 = n3 ∧ cap3 = c3 := by simpa using hcs3
 refine (copt25_any a0 a1 a2 a3 len0 cap0 len1 cap1 len2 cap2 len3 cap3 x0 x1 x2 x3 W g0 g1 g2 g3).mono fun e W' ⟨he, hb⟩ => ?_
 subst he
 exact ⟨_, rfl, post_true laidOut Tryz.underlying4 rfl (by kernel_rfl) (rowed (by kernel_rfl)) hW' rfl rfl rfl hb⟩

theorem clearOptimality_holds : Rows.ClearOptimalitySaid :=
 OpenClaim.holds_of_wide 9 Tryz.f9 rfl rfl rfl rfl rfl rfl rfl ⟨rfl, rfl, rfl, rfl, rfl⟩ rfl rfl rfl rfl rfl (by kernel_rfl) Tryz.func9 (by kernel_rfl)
  (of_decide_eq_true (by kernel_rfl)) (by unfold Func.isWrapper; first | (rw [if_pos (by decide +kernel)]; kernel_rfl) | (rw [if_neg (by decide +kernel)]; exact ⟨rfl, rfl⟩))
  (fun os started H enc _ => clearOptimality_lifted os started H enc)
#print axioms clearOptimality_holds
end Go.Proofs.YtjajigkacccdgaaGreat
