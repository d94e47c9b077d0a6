/-
Plain law of ReserveOptimality. The reference of layer 30: the plain law of Fill, unit by unit. No statement of the seat is proved here; no conditions beyond those of each theorem.
-/
import Derived.Test.YtodkhjihkkmplaaGreatLRu2
namespace Go.Proofs.YtodkhjihkkmplaaGreat
set_option linter.unusedVariables false
set_option linter.unusedSimpArgs false
open Go.RowKit
open Wd




/-- The room of a unit as the statement computes it. -/
def rmR (us : List Un) (bs : List Bool) (qs : List Rat) (i : Nat) : Rat := roomV (bs[i]?.getD false) (us[i]?.getD U0) (qs[i]?.getD 0)



end Go.Proofs.YtodkhjihkkmplaaGreat
namespace Go.Proofs.YtodkhjihkkmplaaGreat
open Go.RowKit
open Wd
namespace Rv
/-- The unit that the scan of the first k finds. -/
def scan (done : Nat → Bool) (sp : Nat → Int) : Nat → Int
 | 0 => -1
 | k + 1 => if !done k && (decide (scan done sp k < 0) || decide (sp k < sp (scan done sp k).toNat)) then (k : Int) else scan done sp k
theorem scan_spec (done : Nat → Bool) (sp : Nat → Int) : ∀ k, (scan done sp k = -1 ∧ ∀ i, i < k → done i = true) ∨ ∃ a : Nat, scan done sp k = (a : Int) ∧ a < k ∧ done a = false ∧ ∀ i, i < k → done i = false → i ≠ a → Bef sp a i
 | 0 => .inl ⟨rfl, fun i hi => absurd hi (by omega)⟩
 | k + 1 => by
  have ih := scan_spec done sp k
  unfold scan
  cases hd : done k
  ·rcases ih with ⟨h1, h2⟩ | ⟨a, h1, h2, h3, h4⟩
   ·right
    refine ⟨k, ?_, by omega, hd, fun i hi hdi hne => ?_⟩
    ·rw [h1]
     rfl
    ·rw [h2 i (by omega)] at hdi; cases hdi
   ·rw [h1]
    have e0 : decide ((a : Int) < 0) = false := decide_eq_false (by omega)
    have e1 : ((a : Int)).toNat = a := by omega
    rw [e0, e1]
    by_cases hs : sp k < sp a
    ·right
     rw [decide_eq_true hs]
     refine ⟨k, rfl, by omega, hd, fun i hi hdi hne => ?_⟩
     by_cases hia : i = a
     ·subst hia; exact .inl hs
     ·rcases h4 i (by omega) hdi hia with h | ⟨h, _⟩
      ·exact .inl (by omega)
      ·exact .inl (by omega)
    ·right
     rw [decide_eq_false hs]
     refine ⟨a, rfl, by omega, h3, fun i hi hdi hne => ?_⟩
     by_cases hik : i = k
     ·subst hik
      unfold Bef
      omega
     ·exact h4 i (by omega) hdi hne
  ·rw [show (!true) = false from rfl, Bool.false_and]
   rcases ih with ⟨h1, h2⟩ | ⟨a, h1, h2, h3, h4⟩
   ·left
    refine ⟨h1, fun i hi => ?_⟩
    by_cases hik : i = k
    ·subst hik; exact hd
    ·exact h2 i (by omega)
   ·right
    refine ⟨a, h1, by omega, h3, fun i hi hdi hne => ?_⟩
    by_cases hik : i = k
    ·subst hik; rw [hd] at hdi; cases hdi
    ·exact h4 i (by omega) hdi hne
/-- There is an order. -/
theorem ord_ex (sp : Nat → Int) (n : Nat) : ∃ ord, Ord sp n ord := by
 let le : Nat → Nat → Bool := fun a b => decide (sp a < sp b) || (decide (sp a = sp b) && decide (a ≤ b))
 have htr : ∀ a b c, le a b = true → le b c = true → le a c = true := by
  intro a b c
  simp only [le, Bool.or_eq_true, Bool.and_eq_true, decide_eq_true_eq]
  omega
 have htot : ∀ a b, (le a b || le b a) = true := by
  intro a b
  simp only [le, Bool.or_eq_true, Bool.and_eq_true, decide_eq_true_eq]
  omega
 refine ⟨(List.range n).mergeSort le, List.mergeSort_perm _ _, ?_⟩
 have hs := List.pairwise_mergeSort htr htot (List.range n)
 have hn : ((List.range n).mergeSort le).Nodup := (List.mergeSort_perm (List.range n) le).nodup_iff.2 List.nodup_range
 refine List.Pairwise.imp₂ (fun a b h1 h2 => ?_) hs hn
 unfold Bef
 simp only [le, Bool.or_eq_true, Bool.and_eq_true, decide_eq_true_eq] at h1
 omega
/-- After j units the scan finds the next of the order. -/
theorem scan_ord {sp : Nat → Int} {n : Nat} {ord : List Nat} (ho : Ord sp n ord) {j : Nat} (hj : j < n) (done : Nat → Bool) (hd : ∀ i, i < n → done i = decide (i ∈ ord.take j)) : scan done sp n = ((ord[j]?.getD 0 : Nat) : Int) ∧ ord[j]?.getD 0 < n ∧ ord[j]?.getD 0 ∉ ord.take j := by
 have hl : ord.length = n := by rw [ho.1.length_eq, List.length_range]
 have hjl : j < ord.length := by omega
 rw [List.getElem?_eq_getElem hjl, Option.getD_some]
 have hin : ord[j] < n := List.mem_range.1 (ho.1.subset (List.getElem_mem hjl))
 have hnd : ord.Nodup := ho.1.nodup_iff.2 List.nodup_range
 have hnot : ord[j] ∉ ord.take j := by
  intro hm
  obtain ⟨i, hi, e⟩ := List.mem_take_iff_getElem.1 hm
  have := (List.getElem_inj hnd).1 e
  omega
 refine ⟨?_, hin, hnot⟩
 have hdj : done ord[j] = false := by rw [hd _ hin]; exact decide_eq_false hnot
 rcases scan_spec done sp n with ⟨h1, h2⟩ | ⟨a, h1, h2, h3, h4⟩
 ·rw [h2 _ hin] at hdj; cases hdj
 ·rw [h1]
  by_cases ha : a = ord[j]
  ·rw [ha]
  ·exfalso
   have b1 := h4 _ hin hdj (Ne.symm ha)
   have ham : a ∉ ord.take j := by rw [hd _ h2] at h3; exact of_decide_eq_false h3
   obtain ⟨i, hi, e⟩ := List.getElem_of_mem (ho.mem h2)
   have hij : j < i := by
    rcases Nat.lt_trichotomy i j with h | h | h
    ·exact absurd (List.mem_take_iff_getElem.2 ⟨i, by omega, e⟩) ham
    ·subst h; exact absurd e.symm ha
    ·exact h
   have b2 := List.pairwise_iff_getElem.1 ho.2 j i hjl hi hij
   rw [e] at b2
   exact b1.asymm b2
/-- The step of the reference: every unit, whether on or off. -/
def rstepR (rm : Nat → Rat) (sp : Nat → Int) (s : St) (i : Nat) : St :=
 ⟨s.tk.set i (if rm i < s.rest then rm i else s.rest), s.rest - (if rm i < s.rest then rm i else s.rest), if 0 < (if rm i < s.rest then rm i else s.rest) then sp i else s.price⟩
theorem mn_swap (a b : Rat) : (if a < b then a else b) = mn a b := by
 unfold mn
 by_cases h : a < b
 ·have : ¬ b < a := by grind
  rw [if_pos h, if_neg this]
 ·by_cases h2 : b < a
  ·rw [if_neg h, if_pos h2]
  ·rw [if_neg h, if_neg h2]; grind
theorem rstepR_eq {on : Nat → Bool} {rm : Nat → Rat} {sp : Nat → Int} {s : St} {i : Nat} (h0 : on i = false → rm i = 0) (hr : 0 ≤ s.rest) (hi : i < s.tk.length) (ht : s.tk[i]?.getD 0 = 0) : rstepR rm sp s i = rstep on rm sp s i := by
 unfold rstepR rstep
 rw [mn_swap]
 cases ho : on i
 ·have e : mn (rm i) s.rest = 0 := by
   rw [h0 ho]
   unfold mn
   rw [if_neg (by grind)]
  rw [e, if_neg (by simp), if_neg (by grind)]
  have e1 : s.tk.set i 0 = s.tk := by
   apply List.ext_getElem?
   intro j
   by_cases hij : j = i
   ·subst hij
    rw [List.getElem?_set_self hi]
    rw [List.getElem?_eq_getElem hi] at ht ⊢
    simp at ht
    rw [ht]
   ·rw [List.getElem?_set_ne (Ne.symm hij)]
  rw [e1, show s.rest - 0 = s.rest by grind]
 ·rw [if_pos rfl]
end Rv

end Go.Proofs.YtodkhjihkkmplaaGreat
