/-
EnergySingleUnit: for a single unit, LeastCost is the cost of the demand on its curve; for every input the law returns true and the arguments read as before. No condition beyond the statement's own.
-/
import Derived.Test.YthpldmlpononhaaGreatRV
import Derived.Test.YthpldmlpononhaaGreatL8
namespace Go.Proofs.YthpldmlpononhaaGreat
set_option linter.unusedVariables false
set_option linter.unusedSimpArgs false
open Go.ChangeShapes Go.WideShapes Go.ChangeAt Go.RowKit Go.Deep
open Wd

set_option maxHeartbeats 2000000 in
set_option maxRecDepth 100000 in
theorem energySingleUnit_lifted (os : Os) (started : os.Started) (H : Type) (enc : TypeId × Value → H) :
    ReturnsInHanded {} Tryz.checked os 17 .any (Rows.energySingleUnitSpec.pre6 enc Tryz.prog Tryz.f17 Rows.energySingleUnitRow.domain false) (Rows.energySingleUnitSpec.post enc Tryz.prog Tryz.f17 false true false false) := by
  refine returnsInHanded_of_change (C := Tryz.checked) own started (by kernel_rfl) Tryz.func17
    (ChangeSpec.witness6 (enc := enc) (C := Tryz.checked) false ⟨#[], #[.agg #[.int .i64 0, .int .i64 0, .slice none 0 0, .int .i64 0, .int .i64 0, .int .i64 0, .int .i64 0, .int .i64 0, .int .i64 0], .int .i64 0], []⟩ 8 (by kernel_rfl) (by kernel_rfl) (by kernel_rfl) (by kernel_rfl)) ?_
  intro W base args ds gs before hval0 hW hcnd _
  have hval : ∀ (j : Nat) t v, Tryz.f17.params[j]? = some t → args[j]? = some v → Value.okWide Tryz.prog W .any base t v := hval0
  have hW' := hW
  obtain ⟨p, q, hA0, hV, rfl, hfz, hnd⟩ := hW
  have hA : DataW.TrodAll enc Tryz.prog W 0 (fun _ => true) true Tryz.f17.params.toList args.toList ds p := hA0
  rw [Tryz.params17] at hA hval
  obtain ⟨v0, vs0, d0, ds0, p0, q0, hargs, rfl, rfl, h0, r0⟩ := trodAll_cons hA
  obtain ⟨v1, vs1, d1, ds1, p1, q1, rfl, rfl, rfl, h1, r1⟩ := trodAll_cons r0
  obtain ⟨rfl, rfl, rfl⟩ := trodAll_nil r1
  obtain rfl : args = #[v0, v1] := by cases args; simp_all
  obtain ⟨rfl, rfl⟩ := trodVars_none hV
  clear hA0 hval0 hcnd
  obtain ⟨bus0, mn0, a0, len0, cap0, up0, dn0, st0, id0, sp0, on0, x0, rfl, g0⟩ := unit_of (hval 0 48 _ rfl rfl) h0
  obtain ⟨z1, rfl, rfl, rfl, w1⟩ := open_int Tryz.underlying2 (hval 1 2 _ rfl rfl) h1
  refine (single_any bus0 mn0 up0 dn0 st0 id0 sp0 on0 z1 a0 len0 cap0 x0 W g0 (fits_of w1)).mono fun e W' ⟨he, hb⟩ => ?_
  subst he
  exact ⟨_, rfl, post_true laidOut Tryz.underlying4 rfl (by kernel_rfl) (rowed (by kernel_rfl)) hW' rfl rfl rfl hb⟩

theorem energySingleUnit_holds : Rows.EnergySingleUnitSaid :=
  OpenClaim.holds_of_wide 17 Tryz.f17 rfl rfl rfl rfl rfl rfl rfl ⟨rfl, rfl, rfl, rfl, rfl⟩ rfl rfl rfl rfl rfl (by kernel_rfl) Tryz.func17 (by kernel_rfl)
    (of_decide_eq_true (by kernel_rfl)) (by unfold Func.isWrapper; first | (rw [if_pos (by decide +kernel)]; kernel_rfl) | (rw [if_neg (by decide +kernel)]; exact ⟨rfl, rfl⟩))
    (fun os started H enc _ => energySingleUnit_lifted os started H enc)
#print axioms energySingleUnit_holds
end Go.Proofs.YthpldmlpononhaaGreat
