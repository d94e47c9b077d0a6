/-
The statements of layer 30: room. Plain law of the statements of layer 30, over what Fill of package reserve computes. No statement of the seat is proved here; no conditions beyond those of each theorem.
-/
import Derived.Test.YtodkhjihkkmplaaGreatLRt1
import Derived.Test.YtodkhjihkkmplaaGreatLPZ
namespace Go.Proofs.YtodkhjihkkmplaaGreat
set_option linter.unusedVariables false
set_option linter.unusedSimpArgs false
open Go.RowKit
open Wd

/-- The unused capacity of a unit. -/
def roomV (b : Bool) (u : Un) (q : Rat) : Rat := if b then ((umax u : Int) : Rat) - q else ((0 : Int) : Rat)
end Go.Proofs.YtodkhjihkkmplaaGreat
namespace Go.Proofs.YtodkhjihkkmplaaGreat
open Go.RowKit
open Wd
theorem sgn_neg (q : Rat) : decide (sgnQ q < 0) = decide (q < 0) := by
 have h : q < (0 : Rat) ↔ q.num < 0 := by rw [Rat.lt_iff]; simp
 unfold sgnQ cmpI
 by_cases h1 : q.num < 0
 ·simp [h, h1]
 ·simp [h, h1]; split <;> omega
theorem sgn_nil (q : Rat) : sgnQ q = 0 ↔ q = 0 := by
 unfold sgnQ cmpI
 constructor
 ·intro h
  have : q.num = 0 := by split at h <;> (try split at h) <;> omega
  exact Rat.num_eq_zero.1 this
 ·intro h; subst h; rfl
theorem cmp_pos (a b : Rat) : decide (0 < cmpQ a b) = decide (b < a) := by
 unfold cmpQ
 by_cases h : a < b
 ·have : ¬ b < a := by grind
  simp [h, this]
 ·by_cases h2 : b < a
  ·simp [h, h2]
  ·simp [h, h2]
theorem gbad_no {u : Un} {b : Bool} {q : Rat} (h : gbad u b q = false) : 0 ≤ q ∧ q ≤ (mostV b u : Rat) := by
 unfold gbad at h
 rw [sgn_neg, cmp_pos] at h
 simp only [Bool.or_eq_false_iff, decide_eq_false_iff_not] at h
 constructor <;> grind
theorem uchk_spin {u : Un} (h : uchk u = 0) : 0 ≤ u.spin := by
 unfold uchk at h
 split at h
 ·simp at h
 ·split at h
  ·rename_i h1; exact absurd h h1
  ·split at h
   ·simp at h
   ·split at h
    ·simp at h
    ·rename_i h4
     unfold uRest at h4
     omega
theorem good_of {us : List Un} {bs : List Bool} {qs : List Rat} {need : Int} (h : rchk us bs qs need = 0) : Rv.Good (onF bs) (rmF us bs qs) (spF us) us.length := by
 obtain ⟨h1, h2, h3, h4, h5⟩ := rchk_ok h
 obtain ⟨k1, k2, k3⟩ := echk_ok h1
 refine ⟨fun i hi => ?_, fun i hi ho => ?_, fun i hi => ?_⟩
 ·obtain ⟨g1, g2⟩ := gbad_no (h3 i hi)
  unfold rmF
  grind
 ·obtain ⟨g1, g2⟩ := gbad_no (h3 i hi)
  unfold onF at ho
  unfold rmF
  rw [ho] at g2 ⊢
  simp only [mostV, Bool.false_eq_true, if_false] at g2 ⊢
  have : ((0 : Int) : Rat) = 0 := rfl
  grind
 ·have hm : us[i]?.getD U0 ∈ us := by
   rw [List.getElem?_eq_getElem hi]
   exact List.getElem_mem hi
  exact uchk_spin (k3 _ hm)
theorem room_rm {us : List Un} {bs : List Bool} {qs : List Rat} {need : Int} (h : rchk us bs qs need = 0) {i : Nat} (hi : i < us.length) : roomV (bs[i]?.getD false) (us[i]?.getD U0) (qs[i]?.getD 0) = rmF us bs qs i := by
 unfold roomV rmF mostV
 cases hb : bs[i]?.getD false with
 | true => simp
 | false =>
  have := (good_of h).goff i hi hb
  unfold rmF mostV at this
  rw [hb] at this
  simp only [Bool.false_eq_true, if_false] at this ⊢
  rw [this]
  rfl





end Go.Proofs.YtodkhjihkkmplaaGreat