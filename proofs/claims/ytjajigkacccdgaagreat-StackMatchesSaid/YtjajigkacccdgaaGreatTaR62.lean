/-
StackMatches: for any curves MergeOffers and MergeBids return what the reference returns, arguments stay, and results may be overwritten; for every input the law returns true and the arguments read as before. No condition beyond the statement's own.
-/
import Derived.Test.YtjajigkacccdgaaGreatTaBY
import Derived.Test.YtjajigkacccdgaaGreatTaBZ
namespace Go.Proofs.YtjajigkacccdgaaGreat
set_option linter.unusedVariables false
set_option linter.unusedSimpArgs false
open Go.ChangeShapes Go.WideShapes Go.ChangeAt Go.RowKit Go.Deep
open Wd

theorem CsAt.fits {w : World} {A : Option Addr} {n : Nat} {ls : List (List (Int × Int))} (h : CsAt w A n ls) : ∀ l ∈ ls, ∀ s ∈ l, Fits s.1 ∧ Fits s.2 := fun l hl => by
 obtain ⟨j, hj, rfl⟩ := List.mem_iff_getElem.1 hl
 obtain ⟨b, o, _, _, hc⟩ := h.2 (by have := h.1; omega)
 obtain ⟨A', n', c', _, hs⟩ := hc j (by have := h.1; omega)
 rw [List.getElem?_eq_getElem hj] at hs
 exact hs.2.1
set_option maxHeartbeats 2000000 in
set_option maxRecDepth 100000 in
theorem stackMatches_lifted (os : Os) (started : os.Started) (H : Type) (enc : TypeId × Value → H) :
  ReturnsInHanded {} Tryz.checked os 3 .any (Rows.stackMatchesSpec.pre6 enc Tryz.prog Tryz.f3 Rows.stackMatchesRow.domain false) (Rows.stackMatchesSpec.post enc Tryz.prog Tryz.f3 false true false false) := by
 refine returnsInHanded_of_change (C := Tryz.checked) own started (by kernel_rfl) Tryz.func3
  (ChangeSpec.witness6 (enc := enc) (C := Tryz.checked) false ⟨#[], #[.slice none 0 0], []⟩ 8 (by kernel_rfl) (by kernel_rfl) (by kernel_rfl) (by kernel_rfl)) ?_
 intro W base args ds gs before hval0 hW hcnd _
 have hval : ∀ (j : Nat) t v, Tryz.f3.params[j]? = some t → args[j]? = some v → Value.okWide Tryz.prog W .any base t v := hval0
 have hW' := hW
 obtain ⟨p, q, hA0, hV, rfl, hfz, hnd⟩ := hW
 have hA : DataW.TrodAll enc Tryz.prog W 0 (fun _ => true) true Tryz.f3.params.toList args.toList ds p := hA0
 rw [Tryz.params3] at hA hval
 obtain ⟨v0, vs0, d0, ds0, p0, q0, hargs, rfl, rfl, h0, r0⟩ := trodAll_cons hA
 obtain ⟨rfl, rfl, rfl⟩ := trodAll_nil r0
 obtain rfl : args = #[v0] := by cases args; simp_all
 obtain ⟨rfl, rfl⟩ := trodVars_none hV
 clear hA0 hval0 hcnd
 obtain ⟨a0, len0, cap0, rfl⟩ := okWide_slice Tryz.underlying22 (hval 0 22 _ rfl rfl)
 obtain ⟨fu0, hf0⟩ := h0
 obtain ⟨A0, n0, c0, x0, hcs0, g0⟩ := css_of hf0
 simp only [Value.cells] at hcs0
 obtain ⟨rfl, rfl, rfl⟩ : a0 = A0 ∧ len0 = n0 ∧ cap0 = c0 := by simpa using hcs0
 refine (smatch_any a0 len0 cap0 x0 W g0 g0.fits).mono fun e W' ⟨he, hb⟩ => ?_
 subst he
 exact ⟨_, rfl, post_true laidOut Tryz.underlying4 rfl (by kernel_rfl) (rowed (by kernel_rfl)) hW' rfl rfl rfl hb⟩

theorem stackMatches_holds : Rows.StackMatchesSaid :=
 OpenClaim.holds_of_wide 3 Tryz.f3 rfl rfl rfl rfl rfl rfl rfl ⟨rfl, rfl, rfl, rfl, rfl⟩ rfl rfl rfl rfl rfl (by kernel_rfl) Tryz.func3 (by kernel_rfl)
  (of_decide_eq_true (by kernel_rfl)) (by unfold Func.isWrapper; first | (rw [if_pos (by decide +kernel)]; kernel_rfl) | (rw [if_neg (by decide +kernel)]; exact ⟨rfl, rfl⟩))
  (fun os started H enc _ => stackMatches_lifted os started H enc)
#print axioms stackMatches_holds
end Go.Proofs.YtjajigkacccdgaaGreat
