/-
Plain law of ReserveOptimality. No statement of the seat is proved here; no conditions beyond those of each theorem.
-/
import Derived.Test.YtodkhjihkkmplaaGreatLRu2
namespace Go.Proofs.YtodkhjihkkmplaaGreat
set_option linter.unusedVariables false
set_option linter.unusedSimpArgs false
open Go.RowKit
open Wd

/-- Whether all of what i units can give is taken. -/
def fullV (t rm : Nat → Rat) : Nat → Bool
  | 0 => true
  | i + 1 => fullV t rm i && decide (t i = rm i)
theorem fullV_all {t rm : Nat → Rat} : ∀ {n : Nat}, (∀ i, i < n → t i = rm i) → fullV t rm n = true
  | 0, _ => rfl
  | n + 1, h => by
    unfold fullV
    rw [fullV_all (fun i hi => h i (by omega)), decide_eq_true (h n (by omega))]
    rfl
theorem fullV_congr {t r r' : Nat → Rat} : ∀ {n : Nat}, (∀ i, i < n → r i = r' i) → fullV t r n = fullV t r' n
  | 0, _ => rfl
  | n + 1, h => by
    unfold fullV
    rw [fullV_congr (fun i hi => h i (by omega)), h n (by omega)]
/-- The room of a unit as the statement computes it. -/
def rmR (us : List Un) (bs : List Bool) (qs : List Rat) (i : Nat) : Rat := roomV (bs[i]?.getD false) (us[i]?.getD U0) (qs[i]?.getD 0)
theorem sum_nn {f : Nat → Rat} : ∀ {n : Nat}, (∀ i, i < n → 0 ≤ f i) → Rv.sumF f n = 0 → ∀ i, i < n → f i = 0
  | 0, _, _, i, hi => by omega
  | n + 1, h, hs, i, hi => by
    have h1 := Rv.sumF_nonneg (f := f) (n := n) (fun j hj => h j (by omega))
    have h2 := h n (by omega)
    have hs' : Rv.sumF f n + f n = 0 := hs
    have e1 : f n = 0 := by grind
    have e2 : Rv.sumF f n = 0 := by grind
    rcases Nat.lt_or_ge i n with hlt | hge
    · exact sum_nn (fun j hj => h j (by omega)) e2 i hlt
    · obtain rfl : i = n := by omega
      exact e1
/-- What Fill takes, unit by unit, and at the end. -/
theorem opt_law {us : List Un} {bs : List Bool} {qs : List Rat} {need : Int} {ord : List Nat} (h : rchk us bs qs need = 0) (ho : Rv.Ord (spF us) us.length ord) :
    (∀ i, i < us.length → 0 ≤ Rv.gt (fillV us bs qs need ord).tk i ∧ Rv.gt (fillV us bs qs need ord).tk i ≤ rmR us bs qs i) ∧
    Rv.sumF (Rv.gt (fillV us bs qs need ord).tk) us.length + (fillV us bs qs need ord).rest = ((need : Int) : Rat) ∧ 0 ≤ (fillV us bs qs need ord).rest ∧
    (0 < (fillV us bs qs need ord).rest → fullV (Rv.gt (fillV us bs qs need ord).tk) (rmR us bs qs) us.length = true) := by
  have I := fill_inv h ho
  have hr : ∀ i, i < us.length → rmR us bs qs i = rmF us bs qs i := fun i hi => room_rm h hi
  refine ⟨fun i hi => ⟨I.lo i, ?_⟩, I.sum, I.rest, fun h0 => ?_⟩
  · rw [hr i hi]
    exact I.hi i (ho.mem hi)
  · rw [fullV_congr hr]
    exact fullV_all fun i hi => I.full h0 i (ho.mem hi)
/-- No other selection of the same total costs less. -/
theorem opt_row {us : List Un} {bs : List Bool} {qs : List Rat} {need : Int} {ord : List Nat} (h : rchk us bs qs need = 0) (ho : Rv.Ord (spF us) us.length ord) {y : Nat → Rat} {m : Nat} (hm : m = us.length ∨ m = 0)
    (hy : ∀ i, i < m → 0 ≤ y i ∧ y i ≤ rmR us bs qs i) (hs : Rv.sumF y m = Rv.sumF (Rv.gt (fillV us bs qs need ord).tk) us.length) :
    ¬ Rv.sumF (fun i => y i * (((us[i]?.getD U0).spin : Int) : Rat)) m < Rv.sumF (fun i => Rv.gt (fillV us bs qs need ord).tk i * (((us[i]?.getD U0).spin : Int) : Rat)) us.length := by
  have I := fill_inv h ho
  have hr : ∀ i, i < us.length → rmR us bs qs i = rmF us bs qs i := fun i hi => room_rm h hi
  rcases hm with rfl | rfl
  · have := Rv.opt I (fun i hi => ho.mem hi) (y := y) (fun i hi => (hy i hi).1) (fun i hi => by rw [← hr i hi]; exact (hy i hi).2) hs (fun i hi => (good_of h).gsp i hi)
    unfold spF at this
    exact Rat.not_lt.2 this
  · have hz := sum_nn (f := Rv.gt (fillV us bs qs need ord).tk) (fun i _ => I.lo i) hs.symm
    have : Rv.sumF (fun i => Rv.gt (fillV us bs qs need ord).tk i * (((us[i]?.getD U0).spin : Int) : Rat)) us.length = Rv.sumF (fun _ => 0) us.length := Rv.sumF_congr fun i hi => by rw [hz i hi]; grind
    rw [this, Rv.sumF_zero]
    exact Rat.not_lt.2 Rat.le_refl
theorem sumF_lv {f : Nat → Rat} {K : Nat} : ∀ {n : Nat}, (∀ i, i < n → Lv K (f i)) → Lv (K + 1 + n) (Rv.sumF f n)
  | 0, _ => lv_int (z := 0) _ (by decide)
  | n + 1, h => (sumF_lv (fun i hi => h i (by omega))).add ((h n (by omega)).mono (by omega))

end Go.Proofs.YtodkhjihkkmplaaGreat
