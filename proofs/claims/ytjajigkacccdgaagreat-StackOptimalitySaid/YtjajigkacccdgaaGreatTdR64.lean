/-
StackOptimality: no division among the curves is better than the stack's cost, and no division of equal cost is lexicographically less than Share's; for every input the law returns true and the arguments read as before. No condition beyond the statement's own.
-/
import Derived.Test.YtjajigkacccdgaaGreatTdBZ
namespace Go.Proofs.YtjajigkacccdgaaGreat
set_option linter.unusedVariables false
set_option linter.unusedSimpArgs false
open Go.ChangeShapes Go.WideShapes Go.ChangeAt Go.RowKit Go.Deep
open Wd

set_option maxHeartbeats 2000000 in
set_option maxRecDepth 100000 in
theorem stackOptimality_lifted (os : Os) (started : os.Started) (H : Type) (enc : TypeId × Value → H) :
  ReturnsInHanded {} Tryz.checked os 6 .any (Rows.stackOptimalitySpec.pre6 enc Tryz.prog Tryz.f6 Rows.stackOptimalityRow.domain false) (Rows.stackOptimalitySpec.post enc Tryz.prog Tryz.f6 false true false false) := by
 refine returnsInHanded_of_change (C := Tryz.checked) own started (by kernel_rfl) Tryz.func6
  (ChangeSpec.witness6 (enc := enc) (C := Tryz.checked) false ⟨#[], #[.slice none 0 0, .bool false, .slice none 0 0], []⟩ 8 (by kernel_rfl) (by kernel_rfl) (by kernel_rfl) (by kernel_rfl)) ?_
 intro W base args ds gs before hval0 hW hcnd _
 have hval : ∀ (j : Nat) t v, Tryz.f6.params[j]? = some t → args[j]? = some v → Value.okWide Tryz.prog W .any base t v := hval0
 have hW' := hW
 obtain ⟨p, q, hA0, hV, rfl, hfz, hnd⟩ := hW
 have hA : DataW.TrodAll enc Tryz.prog W 0 (fun _ => true) true Tryz.f6.params.toList args.toList ds p := hA0
 rw [Tryz.params6] at hA hval
 obtain ⟨v0, vs0, d0, ds0, p0, q0, hargs, rfl, rfl, h0, r0⟩ := trodAll_cons hA
 obtain ⟨v1, vs1, d1, ds1, p1, q1, rfl, rfl, rfl, h1, r1⟩ := trodAll_cons r0
 obtain ⟨v2, vs2, d2, ds2, p2, q2, rfl, rfl, rfl, h2, r2⟩ := trodAll_cons r1
 obtain ⟨rfl, rfl, rfl⟩ := trodAll_nil r2
 obtain rfl : args = #[v0, v1, v2] := by cases args; simp_all
 obtain ⟨rfl, rfl⟩ := trodVars_none hV
 clear hA0 hval0 hcnd
 obtain ⟨a0, len0, cap0, rfl⟩ := okWide_slice Tryz.underlying22 (hval 0 22 _ rfl rfl)
 obtain ⟨fu0, hf0⟩ := h0
 obtain ⟨A0, n0, c0, x0, hcs0, g0⟩ := css_of hf0
 simp only [Value.cells] at hcs0
 obtain ⟨rfl, rfl, rfl⟩ : a0 = A0 ∧ len0 = n0 ∧ cap0 = c0 := by simpa using hcs0
 obtain ⟨z1, rfl, rfl, rfl⟩ := Go.RowKit.open_bool Tryz.underlying4 (hval 1 4 _ rfl rfl) h1
 obtain ⟨a2, len2, cap2, rfl⟩ := okWide_slice Tryz.underlying46 (hval 2 46 _ rfl rfl)
 obtain ⟨fu2, hf2⟩ := h2
 obtain ⟨A2, n2, c2, x2, hcs2, g2⟩ := qs_of hf2
 simp only [Value.cells] at hcs2
 obtain ⟨rfl, rfl, rfl⟩ : a2 = A2 ∧ len2 = n2 ∧ cap2 = c2 := by simpa using hcs2
 refine (sopt_any a0 a2 len0 cap0 len2 cap2 x0 z1 x2 W g0 g2).mono fun e W' ⟨he, hb⟩ => ?_
 subst he
 exact ⟨_, rfl, post_true laidOut Tryz.underlying4 rfl (by kernel_rfl) (rowed (by kernel_rfl)) hW' rfl rfl rfl hb⟩

theorem stackOptimality_holds : Rows.StackOptimalitySaid :=
 OpenClaim.holds_of_wide 6 Tryz.f6 rfl rfl rfl rfl rfl rfl rfl ⟨rfl, rfl, rfl, rfl, rfl⟩ rfl rfl rfl rfl rfl (by kernel_rfl) Tryz.func6 (by kernel_rfl)
  (of_decide_eq_true (by kernel_rfl)) (by unfold Func.isWrapper; first | (rw [if_pos (by decide +kernel)]; kernel_rfl) | (rw [if_neg (by decide +kernel)]; exact ⟨rfl, rfl⟩))
  (fun os started H enc _ => stackOptimality_lifted os started H enc)
#print axioms stackOptimality_holds
end Go.Proofs.YtjajigkacccdgaaGreat
