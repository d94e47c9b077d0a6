/-
Plain law of ReserveMarginalPrice. Plain law of ReserveAdditivity. No statement of the seat is proved here; no conditions beyond those of each theorem.
-/
import Derived.Test.YtodkhjihkkmplaaGreatLQD
import Derived.Test.YtodkhjihkkmplaaGreatLRt4
namespace Go.Proofs.YtodkhjihkkmplaaGreat
set_option linter.unusedVariables false
set_option linter.unusedSimpArgs false
open Go.RowKit
open Wd

theorem price_law {us : List Un} {bs : List Bool} {qs : List Rat} {need : Int} {ord : List Nat} (h : rchk us bs qs need = 0) (ho : Rv.Ord (spF us) us.length ord) {i : Nat} (hi : i < us.length) :
    0 ≤ Rv.gt (fillV us bs qs need ord).tk i ∧ ((us[i]?.getD U0).spin < (fillV us bs qs need ord).price → Rv.gt (fillV us bs qs need ord).tk i = roomV (bs[i]?.getD false) (us[i]?.getD U0) (qs[i]?.getD 0)) ∧
    ((fillV us bs qs need ord).price < (us[i]?.getD U0).spin → Rv.gt (fillV us bs qs need ord).tk i = 0) ∧
    Rv.gt (fillV us bs qs need ord).tk i * (((us[i]?.getD U0).spin : Int) : Rat) ≤ (((fillV us bs qs need ord).price : Int) : Rat) * Rv.gt (fillV us bs qs need ord).tk i := by
  have I := fill_inv h ho
  have l1 := I.lo i
  have hsp := (good_of h).gsp i hi
  rw [room_rm h hi]
  have p1 := I.prlo i (ho.mem hi)
  have hpr := I.pr
  have hbel := fun j => I.bel i j (ho.mem hi)
  unfold spF at *
  generalize (fillV us bs qs need ord).price = p at *
  generalize Rv.gt (fillV us bs qs need ord).tk i = t at *
  refine ⟨l1, fun hlt => ?_, fun hgt => ?_, ?_⟩
  · rcases hpr with h0 | ⟨j, h1, h2, h3⟩
    · omega
    · exact hbel j h1 (by omega) h2
  · by_cases h0 : 0 < t
    · have := p1 h0; omega
    · grind
  · by_cases h0 : 0 < t
    · have h4 := p1 h0
      have h5 : (((us[i]?.getD U0).spin : Int) : Rat) ≤ ((p : Int) : Rat) := Rat.intCast_le_intCast.2 h4
      have := Rat.mul_le_mul_of_nonneg_left h5 l1
      grind
    · have : t = 0 := by grind
      rw [this]
      grind
theorem uchk_spin2 {u : Un} (h : uchk u = 0) : u.spin ≤ 1000000 := by
  unfold uchk at h
  split at h
  · simp at h
  · split at h
    · rename_i h1; exact absurd h h1
    · split at h
      · simp at h
      · split at h
        · simp at h
        · rename_i h4
          unfold uRest at h4
          omega

theorem price_bd {us : List Un} {bs : List Bool} {qs : List Rat} {need : Int} {ord : List Nat} (h : rchk us bs qs need = 0) (ho : Rv.Ord (spF us) us.length ord) : 0 ≤ (fillV us bs qs need ord).price ∧ (fillV us bs qs need ord).price ≤ 1000000 := by
  have I := fill_inv h ho
  refine ⟨I.prpos, ?_⟩
  rcases I.pr with h0 | ⟨j, h1, h2, h3⟩
  · omega
  · rw [h3]
    have hj : j < us.length := List.mem_range.1 (ho.1.subset h1)
    obtain ⟨k1, k2, k3⟩ := echk_ok (rchk_ok h).1
    have hm : us[j]?.getD U0 ∈ us := by
      rw [List.getElem?_eq_getElem hj]
      exact List.getElem_mem hj
    exact uchk_spin2 (k3 _ hm)

end Go.Proofs.YtodkhjihkkmplaaGreat

namespace Go.Proofs.YtodkhjihkkmplaaGreat
set_option linter.unusedVariables false
set_option linter.unusedSimpArgs false
open Go.RowKit
open Wd

theorem gbad_ok {u : Un} {b : Bool} {q : Rat} (h0 : 0 ≤ q) (h1 : q ≤ (mostV b u : Rat)) : gbad u b q = false := by
  unfold gbad
  rw [sgn_neg, cmp_pos, decide_eq_false (show ¬ q < 0 by grind), decide_eq_false (show ¬ (mostV b u : Rat) < q by grind)]
  rfl
theorem rchk_of {us : List Un} {bs : List Bool} {qs : List Rat} {need : Int} (h1 : echk us bs.length = 0) (h2 : qs.length = us.length) (h3 : gokN us bs qs us.length) (h4 : 0 ≤ need) (h5 : need ≤ 1000000) : rchk us bs qs need = 0 := by
  unfold rchk
  rw [if_neg (by simp [h1]), if_neg (by simp [h2]), if_neg (fun hh => hh h3), if_neg (by omega)]
theorem int_nn {z : Int} (h : 0 ≤ z) : (0 : Rat) ≤ ((z : Int) : Rat) := by
  have : ((0 : Int) : Rat) ≤ ((z : Int) : Rat) := Rat.intCast_le_intCast.2 h
  exact this
/-- Covering a need in two parts. -/
theorem add30 {us : List Un} {bs : List Bool} {qs ms : List Rat} {a b : Int} {o1 o2 o3 : List Nat} (h : rchk us bs qs a = 0) (hb0 : 0 ≤ b) (hb1 : b ≤ 1000000) (hml : ms.length = us.length) (ho1 : Rv.Ord (spF us) us.length o1)
    (hms : ∀ i, i < us.length → ms[i]?.getD 0 = qs[i]?.getD 0 + Rv.gt (fillV us bs qs a o1).tk i) : rchk us bs ms b = 0 ∧
    (Rv.Ord (spF us) us.length o2 → Rv.Ord (spF us) us.length o3 → (fillV us bs qs (a + b) o2).price = max (fillV us bs qs a o1).price (fillV us bs ms b o3).price ∧ (fillV us bs qs (a + b) o2).rest = (fillV us bs qs a o1).rest + (fillV us bs ms b o3).rest ∧
      ∀ i, i < us.length → Rv.gt (fillV us bs qs (a + b) o2).tk i = Rv.gt (fillV us bs qs a o1).tk i + Rv.gt (fillV us bs ms b o3).tk i) := by
  obtain ⟨h1, h2, h3, h4, h5⟩ := rchk_ok h
  have I := fill_inv h ho1
  have hrm : ∀ i, i < us.length → rmF us bs ms i = rmF us bs qs i - Rv.gt (fillV us bs qs a o1).tk i := fun i hi => by
    unfold rmF
    rw [hms i hi]
    grind
  refine ⟨rchk_of h1 hml (fun i hi => ?_) hb0 hb1, fun ho2 ho3 => ?_⟩
  · obtain ⟨g1, g2⟩ := gbad_no (h3 i hi)
    have l1 := I.lo i
    have l2 := I.hi i (ho1.mem hi)
    rw [hms i hi]
    unfold rmF at l2
    exact gbad_ok (by grind) (by grind)
  · obtain rfl := ho1.uniq ho2
    obtain rfl := ho1.uniq ho3
    have m := Rv.add_take (rm' := rmF us bs ms) (a := (a : Rat)) (b := (b : Rat)) (good_of h) ho1 (int_nn h4) (int_nn hb0) (fun i hi _ => hrm i hi) o1.length (Nat.le_refl _)
    rw [List.take_length] at m
    have e : ((a + b : Int) : Rat) = (a : Rat) + (b : Rat) := Rat.intCast_add a b
    unfold fillV
    rw [e]
    exact ⟨m.2.2.2.2.1, m.1, fun i _ => m.2.2.2.1 i⟩

end Go.Proofs.YtodkhjihkkmplaaGreat
