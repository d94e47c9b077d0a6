/-
Plain law of ReserveMarginalPrice. No statement of the seat is proved here; no conditions beyond those of each theorem.
-/
import Derived.Test.YtodkhjihkkmplaaGreatLQD
import Derived.Test.YtodkhjihkkmplaaGreatLRt4
namespace Go.Proofs.YtodkhjihkkmplaaGreat
set_option linter.unusedVariables false
set_option linter.unusedSimpArgs false
open Go.RowKit
open Wd

theorem price_law {us : List Un} {bs : List Bool} {qs : List Rat} {need : Int} {ord : List Nat} (h : rchk us bs qs need = 0) (ho : Rv.Ord (spF us) us.length ord) {i : Nat} (hi : i < us.length) :
    0 ≤ Rv.gt (fillV us bs qs need ord).tk i ∧ ((us[i]?.getD U0).spin < (fillV us bs qs need ord).price → Rv.gt (fillV us bs qs need ord).tk i = roomV (bs[i]?.getD false) (us[i]?.getD U0) (qs[i]?.getD 0)) ∧
    ((fillV us bs qs need ord).price < (us[i]?.getD U0).spin → Rv.gt (fillV us bs qs need ord).tk i = 0) ∧
    Rv.gt (fillV us bs qs need ord).tk i * (((us[i]?.getD U0).spin : Int) : Rat) ≤ (((fillV us bs qs need ord).price : Int) : Rat) * Rv.gt (fillV us bs qs need ord).tk i := by
  have I := fill_inv h ho
  have l1 := I.lo i
  have hsp := (good_of h).gsp i hi
  rw [room_rm h hi]
  have p1 := I.prlo i (ho.mem hi)
  have hpr := I.pr
  have hbel := fun j => I.bel i j (ho.mem hi)
  unfold spF at *
  generalize (fillV us bs qs need ord).price = p at *
  generalize Rv.gt (fillV us bs qs need ord).tk i = t at *
  refine ⟨l1, fun hlt => ?_, fun hgt => ?_, ?_⟩
  · rcases hpr with h0 | ⟨j, h1, h2, h3⟩
    · omega
    · exact hbel j h1 (by omega) h2
  · by_cases h0 : 0 < t
    · have := p1 h0; omega
    · grind
  · by_cases h0 : 0 < t
    · have h4 := p1 h0
      have h5 : (((us[i]?.getD U0).spin : Int) : Rat) ≤ ((p : Int) : Rat) := Rat.intCast_le_intCast.2 h4
      have := Rat.mul_le_mul_of_nonneg_left h5 l1
      grind
    · have : t = 0 := by grind
      rw [this]
      grind
theorem uchk_spin2 {u : Un} (h : uchk u = 0) : u.spin ≤ 1000000 := by
  unfold uchk at h
  split at h
  · simp at h
  · split at h
    · rename_i h1; exact absurd h h1
    · split at h
      · simp at h
      · split at h
        · simp at h
        · rename_i h4
          unfold uRest at h4
          omega

theorem price_bd {us : List Un} {bs : List Bool} {qs : List Rat} {need : Int} {ord : List Nat} (h : rchk us bs qs need = 0) (ho : Rv.Ord (spF us) us.length ord) : 0 ≤ (fillV us bs qs need ord).price ∧ (fillV us bs qs need ord).price ≤ 1000000 := by
  have I := fill_inv h ho
  refine ⟨I.prpos, ?_⟩
  rcases I.pr with h0 | ⟨j, h1, h2, h3⟩
  · omega
  · rw [h3]
    have hj : j < us.length := List.mem_range.1 (ho.1.subset h1)
    obtain ⟨k1, k2, k3⟩ := echk_ok (rchk_ok h).1
    have hm : us[j]?.getD U0 ∈ us := by
      rw [List.getElem?_eq_getElem hj]
      exact List.getElem_mem hj
    exact uchk_spin2 (k3 _ hm)

end Go.Proofs.YtodkhjihkkmplaaGreat
