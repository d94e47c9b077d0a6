/-
Plain law of the reference's merge: the next price, the part of a curve. Plain law of Share over rationals: the shares fill from the last curve to the first between what the curves hold below and up to a price. Plain law of ClearOptimality: no trade has a greater welfare than the cleared one, and none of equal welfare is lexicographically less. No statement of the seat is proved here; no conditions beyond those of each theorem.
-/
import Derived.Test.YtjajigkacccdgaaGreatTcBG
import Derived.Test.YtjajigkacccdgaaGreatTcBT
import Derived.Test.YtjajigkacccdgaaGreatTcBN
namespace Go.Proofs.YtjajigkacccdgaaGreat
set_option linter.unusedVariables false
set_option linter.unusedSimpArgs false
open Go.RowKit
open Wd
namespace St

def ltB (up : Bool) (a b : Int) : Bool := if up then decide (a < b) else decide (b < a)














theorem lv_sorted {up : Bool} {lv : List Lv} (h : (lv.map (·.1)).Pairwise (ltU up)) {i j : Nat} (hij : i < j) (hj : j < lv.length) : ltU up (lv[i]?.getD (0, 0, [])).1 (lv[j]?.getD (0, 0, [])).1 := by
 have := List.pairwise_iff_getElem.1 h i j (by simpa using (show i < lv.length by omega)) (by simpa using hj) hij
 rw [List.getElem_map, List.getElem_map] at this
 rw [List.getElem?_eq_getElem (show i < lv.length by omega), List.getElem?_eq_getElem hj]
 exact this







end St
end Go.Proofs.YtjajigkacccdgaaGreat
namespace Go.Proofs.YtjajigkacccdgaaGreat
set_option linter.unusedVariables false
set_option linter.unusedSimpArgs false
open Go.RowKit
open Wd
/-- What is left of t when the last j curves have given, and what the next gives. -/
def qRest (xs : List Int) (n : Nat) (t : Rat) : Nat → Rat
 | 0 => t
 | j + 1 => qRest xs n t j - lessQ (qRest xs n t j) (xs[n - 1 - j]?.getD 0)
def qPart (xs : List Int) (n : Nat) (t : Rat) (j : Nat) : Rat := lessQ (qRest xs n t j) (xs[n - 1 - j]?.getD 0)
def qRow (xs : List Int) (n : Nat) (t : Rat) (ys : List Rat) : Nat → List Rat
 | 0 => ys
 | j + 1 => (qRow xs n t ys j).set (n - 1 - j) ((qRow xs n t ys j)[n - 1 - j]?.getD 0 + qPart xs n t j)
def qAll (lv : List St.Lv) (n : Nat) (z : Rat) : Nat → List Rat
 | 0 => List.replicate n 0
 | i + 1 => qRow (lv[i]?.getD Lv0).2.2 n (partAt (lvQ lv) z i) (qAll lv n z i) n
theorem qRow_len (xs : List Int) (n : Nat) (t : Rat) (ys : List Rat) : ∀ j, (qRow xs n t ys j).length = ys.length
 | 0 => rfl
 | j + 1 => by rw [qRow, List.length_set, qRow_len xs n t ys j]
theorem qAll_len (lv : List St.Lv) (n : Nat) (z : Rat) : ∀ i, (qAll lv n z i).length = n
 | 0 => by simp [qAll]
 | i + 1 => by rw [qAll, qRow_len, qAll_len lv n z i]
theorem qRow_get {xs : List Int} {n : Nat} {t : Rat} {ys : List Rat} (hy : ys.length = n) : ∀ j, j ≤ n → ∀ i, i < n → (qRow xs n t ys j)[i]?.getD 0 = if n - j ≤ i then ys[i]?.getD 0 + qPart xs n t (n - 1 - i) else ys[i]?.getD 0
 | 0, _, i, hi => by rw [if_neg (by omega)]; rfl
 | j + 1, hj, i, hi => by
  have ih := qRow_get (xs := xs) (t := t) hy j (by omega)
  rw [qRow]
  by_cases e : n - 1 - j = i
  ·subst e
   rw [List.getElem?_set_self (by rw [qRow_len]; omega), if_pos (by omega)]
   simp only [Option.getD_some]
   rw [ih _ hi, if_neg (by omega), show n - 1 - (n - 1 - j) = j by omega]
  ·rw [List.getElem?_set_ne e, ih i hi]
   by_cases c : n - j ≤ i
   ·rw [if_pos c, if_pos (by omega)]
   ·rw [if_neg c, if_neg (by omega)]
theorem qAll_get {lv : List St.Lv} {n : Nat} {z : Rat} {i : Nat} (hi : i < n) : ∀ k, (qAll lv n z k)[i]?.getD 0 = sumF (fun k => qPart (lv[k]?.getD Lv0).2.2 n (partAt (lvQ lv) z k) (n - 1 - i)) k
 | 0 => by simp [qAll, sumF, hi]
 | k + 1 => by
  rw [qAll, qRow_get (qAll_len ..) n (Nat.le_refl _) i hi, if_pos (by omega), qAll_get hi k, sumF]
def NN (xs : List Int) : Prop := ∀ y ∈ xs, 0 ≤ y
theorem NN.get {xs : List Int} (h : NN xs) (i : Nat) : 0 ≤ xs[i]?.getD 0 := by
 by_cases hi : i < xs.length
 ·exact h _ (getD_mem hi)
 ·rw [List.getElem?_eq_none (by omega)]; exact Int.le_refl _
section
variable {xs : List Int} {n : Nat} {t : Rat}
theorem qRest_bd (hx : NN xs) (h0 : 0 ≤ t) : ∀ j, 0 ≤ qRest xs n t j ∧ qRest xs n t j ≤ t
 | 0 => ⟨h0, Rat.le_refl⟩
 | j + 1 => by
  obtain ⟨i1, i2⟩ := qRest_bd hx h0 j
  obtain ⟨m1, m2, m3, m4⟩ := lessQ_spec i1 (hx.get (n - 1 - j))
  rw [qRest]
  constructor <;> grind
theorem qPart_bd (hx : NN xs) (h0 : 0 ≤ t) (j : Nat) : 0 ≤ qPart xs n t j ∧ qPart xs n t j ≤ (((xs[n - 1 - j]?.getD 0 : Int)) : Rat) := by
 obtain ⟨i1, i2⟩ := qRest_bd (n := n) hx h0 j
 obtain ⟨m1, m2, m3, m4⟩ := lessQ_spec i1 (hx.get (n - 1 - j))
 exact ⟨m1, m2⟩
theorem qPart_zero (hx : NN xs) (j : Nat) : qPart xs n 0 j = 0 := by
 obtain ⟨i1, i2⟩ := qRest_bd (n := n) (t := 0) hx Rat.le_refl j
 obtain ⟨m1, m2, m3, m4⟩ := lessQ_spec i1 (hx.get (n - 1 - j))
 unfold qPart
 grind
theorem qRest_part (j : Nat) : qRest xs n t (j + 1) = qRest xs n t j - qPart xs n t j := rfl
theorem qRest_anti (hx : NN xs) (h0 : 0 ≤ t) {j k : Nat} (h : j ≤ k) : qRest xs n t k ≤ qRest xs n t j := by
 induction h with
 | refl => exact Rat.le_refl
 | @step m h ih =>
  have := (qPart_bd (n := n) hx h0 m).1
  rw [Nat.succ_eq_add_one, qRest_part]
  grind
/-- When a curve gives, those behind it have given all. -/
theorem qPart_last (hx : NN xs) (h0 : 0 ≤ t) {j k : Nat} (hk : k < j) (hj : 0 < qPart xs n t j) : qPart xs n t k = (((xs[n - 1 - k]?.getD 0 : Int)) : Rat) := by
 have h1 : 0 < qRest xs n t (k + 1) := by
  have h2 := qRest_anti (n := n) hx h0 (show k + 1 ≤ j by omega)
  obtain ⟨i1, i2⟩ := qRest_bd (n := n) hx h0 j
  obtain ⟨m1, m2, m3, m4⟩ := lessQ_spec i1 (hx.get (n - 1 - j))
  unfold qPart at hj
  grind
 obtain ⟨i1, i2⟩ := qRest_bd (n := n) hx h0 k
 obtain ⟨m1, m2, m3, m4⟩ := lessQ_spec i1 (hx.get (n - 1 - k))
 rw [qRest] at h1
 unfold qPart
 grind
end
theorem sumI_take_le {xs : List Int} (hx : NN xs) : ∀ k, sumI (xs.take k) ≤ sumI (xs.take (k + 1)) := fun k => by
 by_cases hk : k < xs.length
 ·rw [take_last hk]
  have := hx.get k
  omega
 ·rw [List.take_of_length_le (by omega), List.take_of_length_le (by omega)]
  exact Int.le_refl _
section
variable {xs : List Int} {n : Nat} {t : Rat}
theorem qRest_le (hx : NN xs) (hl : xs.length = n) (h0 : 0 ≤ t) (h1 : t ≤ ((sumI xs : Int) : Rat)) : ∀ j, j ≤ n → qRest xs n t j ≤ ((sumI (xs.take (n - j)) : Int) : Rat)
 | 0, _ => by rw [Nat.sub_zero, List.take_of_length_le (by omega)]; exact h1
 | j + 1, hj => by
  have ih := qRest_le hx hl h0 h1 j (by omega)
  rw [show n - j = (n - 1 - j) + 1 by omega, take_last (by omega), Rat.intCast_add] at ih
  obtain ⟨i1, i2⟩ := qRest_bd (n := n) hx h0 j
  obtain ⟨m1, m2, m3, m4⟩ := lessQ_spec i1 (hx.get (n - 1 - j))
  have hp : (0 : Rat) ≤ ((sumI (xs.take (n - 1 - j)) : Int) : Rat) := by
   have : ∀ k, 0 ≤ sumI (xs.take k) := fun k => by
    induction k with
    | zero => simp [sumI]
    | succ k ih => exact Int.le_trans ih (sumI_take_le hx k)
   exact_mod_cast this _
  rw [qRest, show n - (j + 1) = n - 1 - j by omega]
  grind
theorem qRest_end (hx : NN xs) (hl : xs.length = n) (h0 : 0 ≤ t) (h1 : t ≤ ((sumI xs : Int) : Rat)) : qRest xs n t n = 0 := by
 have h2 := qRest_le hx hl h0 h1 n (Nat.le_refl _)
 have h3 := (qRest_bd (n := n) hx h0 n).1
 rw [Nat.sub_self, List.take_zero] at h2
 have h4 : ((sumI [] : Int) : Rat) = 0 := rfl
 grind
theorem qRest_full (hx : NN xs) (hl : xs.length = n) : ∀ j, j ≤ n → qRest xs n ((sumI xs : Int) : Rat) j = ((sumI (xs.take (n - j)) : Int) : Rat)
 | 0, _ => by rw [Nat.sub_zero, List.take_of_length_le (by omega)]; rfl
 | j + 1, hj => by
  have ih := qRest_full hx hl j (by omega)
  rw [show n - j = (n - 1 - j) + 1 by omega, take_last (by omega), Rat.intCast_add] at ih
  have hp : (0 : Rat) ≤ ((sumI (xs.take (n - 1 - j)) : Int) : Rat) := by
   have : ∀ k, 0 ≤ sumI (xs.take k) := fun k => by
    induction k with
    | zero => simp [sumI]
    | succ k ih => exact Int.le_trans ih (sumI_take_le hx k)
   exact_mod_cast this _
  have hg : (0 : Rat) ≤ ((xs[n - 1 - j]?.getD 0 : Int) : Rat) := by exact_mod_cast hx.get _
  obtain ⟨m1, m2, m3, m4⟩ := lessQ_spec (z := qRest xs n ((sumI xs : Int) : Rat) j) (by grind) (hx.get (n - 1 - j))
  rw [qRest, show n - (j + 1) = n - 1 - j by omega]
  grind
theorem qPart_full (hx : NN xs) (hl : xs.length = n) {j : Nat} (hj : j < n) : qPart xs n ((sumI xs : Int) : Rat) j = ((xs[n - 1 - j]?.getD 0 : Int) : Rat) := by
 have h1 := qRest_full hx hl j (by omega)
 have h2 := qRest_full hx hl (j + 1) (by omega)
 rw [show n - j = (n - 1 - j) + 1 by omega, take_last (by omega), Rat.intCast_add] at h1
 rw [qRest_part, show n - (j + 1) = n - 1 - j by omega] at h2
 grind
end
theorem sumF_add (f g : Nat → Rat) : ∀ n, sumF (fun i => f i + g i) n = sumF f n + sumF g n
 | 0 => by simp only [sumF]; grind
 | n + 1 => by rw [sumF, sumF_add f g n, sumF, sumF]; grind
theorem sumF_first (f : Nat → Rat) : ∀ n, sumF f (n + 1) = f 0 + sumF (fun i => f (i + 1)) n
 | 0 => by simp only [sumF]; grind
 | n + 1 => by rw [sumF, sumF_first f n, sumF]; grind
theorem sumF_rev (g : Nat → Rat) : ∀ n, sumF (fun i => g (n - 1 - i)) n = sumF g n
 | 0 => rfl
 | n + 1 => by
  rw [sumF_first, sumF, ← sumF_rev g n]
  have e : sumF (fun i => g (n + 1 - 1 - (i + 1))) n = sumF (fun i => g (n - 1 - i)) n := sumF_eq fun i hi => by
   show g (n + 1 - 1 - (i + 1)) = g (n - 1 - i)
   rw [show n + 1 - 1 - (i + 1) = n - 1 - i by omega]
  rw [e, show n + 1 - 1 - 0 = n by omega]
  grind
theorem qPart_sum {xs : List Int} {n : Nat} {t : Rat} : ∀ j, sumF (fun j => qPart xs n t j) j = t - qRest xs n t j
 | 0 => by simp only [sumF, qRest]; grind
 | j + 1 => by rw [sumF, qPart_sum j, qRest_part]; grind
theorem restAt_part (l : List (Int × Int)) (q : Rat) (k : Nat) : restAt l q (k + 1) = restAt l q k - partAt l q k := rfl
theorem partAt_sum (l : List (Int × Int)) (q : Rat) : ∀ k, sumF (fun k => partAt l q k) k = q - restAt l q k
 | 0 => by simp only [sumF, restAt]; grind
 | k + 1 => by rw [sumF, partAt_sum l q k, restAt_part]; grind
/-- What is left in the end: nothing. -/
theorem restAt_end : ∀ {l : List (Int × Int)} {z : Rat}, (∀ s ∈ l, 0 ≤ s.1) → 0 ≤ z → z ≤ ((aT l : Int) : Rat) → restAt l z l.length = 0
 | [], z, _, h0, h1 => by
  have : ((aT [] : Int) : Rat) = 0 := rfl
  show z = 0
  grind
 | s :: l, z, h, h0, h1 => by
  have h2 := h s (List.mem_cons_self ..)
  have hl := fun t ht => h t (List.mem_cons_of_mem _ ht)
  obtain ⟨m1, m2, m3, m4⟩ := lessQ_spec (z := z) h0 h2
  have hT : (0 : Rat) ≤ ((aT l : Int) : Rat) := by exact_mod_cast aT_nonneg hl
  rw [aT_cons, Rat.intCast_add] at h1
  rw [List.length_cons, restAt_hd]
  exact restAt_end hl (by grind) (by grind)
/-- Between the bounds at a price: levels below it are taken whole, levels above it not at all. -/
theorem partAt_side (p : Int) : ∀ {l : List (Int × Int)} {z : Rat}, (l.map (·.2)).Pairwise (· < ·) → (∀ s ∈ l, 0 ≤ s.1) → ((aL p l : Int) : Rat) ≤ z → z ≤ ((aM p l : Int) : Rat) → ∀ k, k < l.length →
  ((l[k]?.getD (0, 0)).2 < p → partAt l z k = (((l[k]?.getD (0, 0)).1 : Int) : Rat)) ∧ (p < (l[k]?.getD (0, 0)).2 → partAt l z k = 0) ∧ 0 ≤ partAt l z k ∧ partAt l z k ≤ (((l[k]?.getD (0, 0)).1 : Int) : Rat)
 | [], z, _, _, _, _, k, hk => by simp at hk
 | s :: l, z, hs, h, h0, h1, k, hk => by
  have h2 := h s (List.mem_cons_self ..)
  rw [List.map_cons, List.pairwise_cons] at hs
  have hab : ∀ t ∈ l, s.2 < t.2 := fun t ht => hs.1 _ (List.mem_map.2 ⟨t, ht, rfl⟩)
  have hl := fun t ht => h t (List.mem_cons_of_mem _ ht)
  have hb := (aL_le_aM p hl).1
  have hz : (0 : Rat) ≤ z := by
   have : (0 : Rat) ≤ ((aL p (s :: l) : Int) : Rat) := by exact_mod_cast (aL_le_aM p h).1
   grind
  have hb' : (0 : Rat) ≤ ((aL p l : Int) : Rat) := by exact_mod_cast hb
  obtain ⟨m1, m2, m3, m4⟩ := lessQ_spec (z := z) hz h2
  rw [aL_cons, Rat.intCast_add] at h0
  rw [aM_cons, Rat.intCast_add] at h1
  have hq : (0 : Rat) ≤ ((s.1 : Int) : Rat) := by exact_mod_cast h2
  have hr : ((aL p l : Int) : Rat) ≤ z - lessQ z s.1 ∧ z - lessQ z s.1 ≤ ((aM p l : Int) : Rat) ∧ (s.2 < p → lessQ z s.1 = ((s.1 : Int) : Rat)) ∧ (p < s.2 → lessQ z s.1 = 0) := by
   by_cases c1 : s.2 < p
   ·rw [if_pos c1] at h0
    rw [if_pos (by omega)] at h1
    exact ⟨by grind, by grind, fun _ => by grind, fun hh => by omega⟩
   ·rw [if_neg c1] at h0
    obtain ⟨a1, a2, a3⟩ := above_zero (p := p) (l := l) fun t ht => by have := hab t ht; omega
    rw [a2] at h1
    rw [a1] at h0
    rw [a1, a2]
    have z0 : ((0 : Int) : Rat) = 0 := rfl
    rw [z0] at h0 h1 ⊢
    by_cases c2 : s.2 ≤ p
    ·rw [if_pos c2] at h1
     exact ⟨by grind, by grind, fun hh => by omega, fun hh => by omega⟩
    ·rw [if_neg c2, z0] at h1
     exact ⟨by grind, by grind, fun hh => by omega, fun hh => by grind⟩
  cases k with
  | zero =>
   have e : partAt (s :: l) z 0 = lessQ z s.1 := rfl
   rw [e]
   exact ⟨hr.2.2.1, hr.2.2.2, m1, m2⟩
  | succ k =>
   rw [partAt_hd]
   exact partAt_side p hs.2 hl hr.1 hr.2.1 k (by simpa using hk)
theorem sumI_sumF {α : Type} (f : α → Int) (d : α) (l : List α) : ∀ k, k ≤ l.length → ((sumI ((l.take k).map f) : Int) : Rat) = sumF (fun k => ((f (l[k]?.getD d) : Int) : Rat)) k
 | 0, _ => by simp [sumI, sumF]
 | k + 1, hk => by rw [sumI_takeL f (by omega) d, Rat.intCast_add, sumI_sumF f d l k (by omega), sumF]
theorem VL.nn {up : Bool} {n : Nat} {lv : List St.Lv} (hv : VL up n lv) {k : Nat} (hk : k < lv.length) : NN (lv[k]?.getD Lv0).2.2 ∧ (lv[k]?.getD Lv0).2.2.length = n := by
 obtain ⟨h1, h2⟩ := hv.parts _ (getD_mem (d := Lv0) hk)
 exact ⟨fun y hy => (h2 y hy).1, h1⟩
/-- The shares of a quantity fill from the last curve to the first between the bounds at a price. -/
theorem qAll_lf {p : Int} {up : Bool} {ls : List (List (Int × Int))} {lv : List St.Lv} {q : Rat} (h : St.IsLv true ls.length (St.tri 0 ls) lv) (hv : VL up ls.length lv) (h1 : ((aL p (lvQ lv) : Int) : Rat) ≤ q) (h2 : q ≤ ((aM p (lvQ lv) : Int) : Rat)) :
  LF ls.length (fun i => ((aL p (ls[i]?.getD []) : Int) : Rat)) (fun i => ((aM p (ls[i]?.getD []) : Int) : Rat)) (fun i => (qAll lv ls.length q lv.length)[i]?.getD 0) q := by
 have hq := (lvQ_pos hv).1
 have hs := lvQ_sorted h
 have hp := partAt_side p hs hq h1 h2
 have hab := aL_le_aM p hq
 have h0 : 0 ≤ q := by
  have : (0 : Rat) ≤ ((aL p (lvQ lv) : Int) : Rat) := by exact_mod_cast hab.1
  grind
 have hT : q ≤ ((aT (lvQ lv) : Int) : Rat) := by
  have : ((aM p (lvQ lv) : Int) : Rat) ≤ ((aT (lvQ lv) : Int) : Rat) := by exact_mod_cast hab.2.2
  grind
 rw [lvQ_len] at hp
 have hpk : ∀ k, k < lv.length → ((lv[k]?.getD Lv0).1 < p → partAt (lvQ lv) q k = ((sumI (lv[k]?.getD Lv0).2.2 : Int) : Rat)) ∧ (p < (lv[k]?.getD Lv0).1 → partAt (lvQ lv) q k = 0) ∧ 0 ≤ partAt (lvQ lv) q k ∧ partAt (lvQ lv) q k ≤ ((sumI (lv[k]?.getD Lv0).2.2 : Int) : Rat) := fun k hk => by
  have := hp k hk
  rw [lvQ_snd, lvQ_fst, (hv.sum _ (getD_mem (d := Lv0) hk)).1] at this
  exact this
 have lo : ∀ i, i < ls.length → ((aL p (ls[i]?.getD []) : Int) : Rat) = sumF (fun k => (((if (lv[k]?.getD Lv0).1 < p then (lv[k]?.getD Lv0).2.2[i]?.getD 0 else 0 : Int)) : Rat)) lv.length := fun i hi => by
  rw [← (St.parts_side h p hi).1, ← sumI_sumF (fun x : St.Lv => if x.1 < p then x.2.2[i]?.getD 0 else 0) Lv0 lv _ (Nat.le_refl _), List.take_length]
 have hi' : ∀ i, i < ls.length → ((aM p (ls[i]?.getD []) : Int) : Rat) = sumF (fun k => (((if (lv[k]?.getD Lv0).1 ≤ p then (lv[k]?.getD Lv0).2.2[i]?.getD 0 else 0 : Int)) : Rat)) lv.length := fun i hi => by
  rw [← (St.parts_side h p hi).2, ← sumI_sumF (fun x : St.Lv => if x.1 ≤ p then x.2.2[i]?.getD 0 else 0) Lv0 lv _ (Nat.le_refl _), List.take_length]
 have z0 : ((0 : Int) : Rat) = 0 := rfl
 have hterm : ∀ i, i < ls.length → ∀ k, k < lv.length → (((if (lv[k]?.getD Lv0).1 < p then (lv[k]?.getD Lv0).2.2[i]?.getD 0 else 0 : Int)) : Rat) ≤ qPart (lv[k]?.getD Lv0).2.2 ls.length (partAt (lvQ lv) q k) (ls.length - 1 - i) ∧ qPart (lv[k]?.getD Lv0).2.2 ls.length (partAt (lvQ lv) q k) (ls.length - 1 - i) ≤ (((if (lv[k]?.getD Lv0).1 ≤ p then (lv[k]?.getD Lv0).2.2[i]?.getD 0 else 0 : Int)) : Rat) := fun i hi k hk => by
  obtain ⟨hn, hl⟩ := hv.nn hk
  obtain ⟨k1, k2, k3, k4⟩ := hpk k hk
  have b := qPart_bd (n := ls.length) hn k3 (ls.length - 1 - i)
  rw [show ls.length - 1 - (ls.length - 1 - i) = i by omega] at b
  by_cases c1 : (lv[k]?.getD Lv0).1 < p
  ·have e := qPart_full hn hl (j := ls.length - 1 - i) (by omega)
   rw [show ls.length - 1 - (ls.length - 1 - i) = i by omega] at e
   rw [k1 c1, if_pos c1, if_pos (by omega), e]
   exact ⟨Rat.le_refl, Rat.le_refl⟩
  ·rw [if_neg c1, z0]
   by_cases c2 : (lv[k]?.getD Lv0).1 ≤ p
   ·rw [if_pos c2]; exact b
   ·rw [if_neg c2, z0, k2 (by omega), qPart_zero hn]
    exact ⟨Rat.le_refl, Rat.le_refl⟩
 refine ⟨fun i hi => ?_, fun i hi => ?_, ?_, fun i hi hlt k hk hik => ?_⟩
 ·show _ ≤ (qAll lv ls.length q lv.length)[i]?.getD 0
  rw [qAll_get hi, lo i hi]
  exact sumF_le fun k hk => (hterm i hi k hk).1
 ·show (qAll lv ls.length q lv.length)[i]?.getD 0 ≤ _
  rw [qAll_get hi, hi' i hi]
  exact sumF_le fun k hk => (hterm i hi k hk).2
 ·have key : ∀ m, m ≤ lv.length → sumF (fun i => (qAll lv ls.length q m)[i]?.getD 0) ls.length = sumF (fun k => partAt (lvQ lv) q k) m := by
   intro m
   induction m with
   | zero =>
    intro _
    have : ∀ n, n ≤ ls.length → sumF (fun i => (qAll lv ls.length q 0)[i]?.getD 0) n = 0 := by
     intro n
     induction n with
     | zero => intro _; rfl
     | succ n ih =>
      intro hn
      have e : (qAll lv ls.length q 0)[n]?.getD 0 = 0 := by simp [qAll, List.getElem?_replicate]; split <;> rfl
      rw [sumF, ih (by omega), e]
      grind
    exact this _ (Nat.le_refl _)
   | succ m ih =>
    intro hm
    obtain ⟨hn, hl⟩ := hv.nn (show m < lv.length by omega)
    obtain ⟨k1, k2, k3, k4⟩ := hpk m (by omega)
    have e : sumF (fun i => (qAll lv ls.length q (m + 1))[i]?.getD 0) ls.length = sumF (fun i => (qAll lv ls.length q m)[i]?.getD 0 + (fun j => qPart (lv[m]?.getD Lv0).2.2 ls.length (partAt (lvQ lv) q m) j) (ls.length - 1 - i)) ls.length := sumF_eq fun i hi => by
     rw [qAll, qRow_get (qAll_len ..) ls.length (Nat.le_refl _) i hi, if_pos (by omega)]
    rw [e, sumF_add, ih (by omega), sumF_rev (fun j => qPart (lv[m]?.getD Lv0).2.2 ls.length (partAt (lvQ lv) q m) j), qPart_sum, qRest_end hn hl k3 k4, sumF]
    grind
  rw [key _ (Nat.le_refl _), partAt_sum]
  have e := restAt_end hq h0 hT
  rw [lvQ_len] at e
  rw [e]
  grind
 ·show (qAll lv ls.length q lv.length)[k]?.getD 0 = _
  replace hlt : ((aL p (ls[i]?.getD []) : Int) : Rat) < (qAll lv ls.length q lv.length)[i]?.getD 0 := hlt
  rw [qAll_get hi, lo i hi] at hlt
  rw [qAll_get hk, hi' k hk]
  -- some level gives more than its whole: it is the one at the price
  have hex : ∃ m, m < lv.length ∧ (((if (lv[m]?.getD Lv0).1 < p then (lv[m]?.getD Lv0).2.2[i]?.getD 0 else 0 : Int)) : Rat) < qPart (lv[m]?.getD Lv0).2.2 ls.length (partAt (lvQ lv) q m) (ls.length - 1 - i) := by
   apply Classical.byContradiction
   intro hno
   have : sumF (fun k => qPart (lv[k]?.getD Lv0).2.2 ls.length (partAt (lvQ lv) q k) (ls.length - 1 - i)) lv.length ≤ sumF (fun k => (((if (lv[k]?.getD Lv0).1 < p then (lv[k]?.getD Lv0).2.2[i]?.getD 0 else 0 : Int)) : Rat)) lv.length := sumF_le fun m hm => by
    have := fun hh => hno ⟨m, hm, hh⟩
    grind
   grind
  obtain ⟨m, hm, hmlt⟩ := hex
  obtain ⟨hn, hl⟩ := hv.nn hm
  obtain ⟨k1, k2, k3, k4⟩ := hpk m hm
  have hmp : (lv[m]?.getD Lv0).1 = p := by
   rcases Int.lt_trichotomy (lv[m]?.getD Lv0).1 p with c | c | c
   ·have e := qPart_full hn hl (j := ls.length - 1 - i) (by omega)
    rw [show ls.length - 1 - (ls.length - 1 - i) = i by omega] at e
    rw [k1 c, if_pos c, e] at hmlt
    exact absurd hmlt Rat.lt_irrefl
   ·exact c
   ·rw [k2 c, qPart_zero hn, if_neg (by omega), z0] at hmlt
    exact absurd hmlt Rat.lt_irrefl
  rw [if_neg (by omega), z0] at hmlt
  refine sumF_eq fun j hj => ?_
  obtain ⟨jn, jl⟩ := hv.nn hj
  obtain ⟨j1, j2, j3, j4⟩ := hpk j hj
  rcases Int.lt_trichotomy (lv[j]?.getD Lv0).1 p with c | c | c
  ·have e := qPart_full jn jl (j := ls.length - 1 - k) (by omega)
   rw [show ls.length - 1 - (ls.length - 1 - k) = k by omega] at e
   rw [j1 c, if_pos (by omega), e]
  ·have ejm : j = m := by
    rcases Nat.lt_trichotomy j m with hh | hh | hh
    ·have := St.lv_sorted h.1 hh hm
     rw [show ((0 : Int), (0 : Int), ([] : List Int)) = Lv0 from rfl, c, hmp] at this
     exact absurd this St.ltU_irr
    ·exact hh
    ·have := St.lv_sorted h.1 hh hj
     rw [show ((0 : Int), (0 : Int), ([] : List Int)) = Lv0 from rfl, c, hmp] at this
     exact absurd this St.ltU_irr
   subst ejm
   have e := qPart_last (n := ls.length) hn k3 (show ls.length - 1 - k < ls.length - 1 - i by omega) hmlt
   rw [show ls.length - 1 - (ls.length - 1 - k) = k by omega] at e
   rw [e, if_pos (by omega)]
  ·rw [j2 c, qPart_zero jn, if_neg (by omega), z0]

end Go.Proofs.YtjajigkacccdgaaGreat

namespace Go.Proofs.YtjajigkacccdgaaGreat
set_option linter.unusedVariables false
set_option linter.unusedSimpArgs false
open Go.RowKit
open Wd

theorem TrZ.top {S D : List St.Lv} {z p : Int} (h : TrZ S D z) (hs : ((lvQ S).map (·.2)).Pairwise (· < ·)) (hq : ∀ s ∈ lvQ S, 0 ≤ s.1) (ds : ((lvQ (D.map negV)).map (·.2)).Pairwise (· < ·)) (dq : ∀ s ∈ lvQ (D.map negV), 0 ≤ s.1) : z ≤ max (aL p (lvQ S)) (aL (-p) (lvQ (D.map negV))) := by
 obtain ⟨h0, h1, h2⟩ := h
 have a1 := aL_le_aM p hq
 have a2 := aL_le_aM (-p) dq
 have dU' : ∀ {u a : Int}, uP D u = some a → uP (D.map negV) u = some (-a) := fun {u a} e => by rw [uP_neg, e]; rfl
 have no : ∀ u, 0 ≤ u → aL p (lvQ S) ≤ u → aL (-p) (lvQ (D.map negV)) ≤ u → ¬ okU S D u := by
  rintro u hu g1 g2 ⟨a, b, e1, e2, e3⟩
  obtain ⟨s1, s2, s3⟩ := uP_side p hs hq hu
  obtain ⟨d1, d2, d3⟩ := uP_side (-p) ds dq hu
  have k1 : p ≤ a := by
   by_cases c : u < aM p (lvQ S)
   ·have := s2 g1 c
    rw [e1] at this
    have := Option.some.inj this
    omega
   ·have := s3 (by omega) a e1
    omega
  have k2 : -p ≤ -b := by
   by_cases c : u < aM (-p) (lvQ (D.map negV))
   ·have := d2 g2 c
    rw [dU' e2] at this
    have := Option.some.inj this
    omega
   ·have := d3 (by omega) _ (dU' e2)
    omega
  omega
 by_cases c : z ≤ max (aL p (lvQ S)) (aL (-p) (lvQ (D.map negV)))
 ·exact c
 ·exact absurd (h1 (max (aL p (lvQ S)) (aL (-p) (lvQ (D.map negV)))) (by omega) (by omega)) (no _ (by omega) (by omega) (by omega))
theorem RunV.top {os bs : List (List (Int × Int))} {z p wf : Int} {xs ys : List Int} {S D : List St.Lv} (hc : ckB os bs = 0) (h : RunV os bs z p wf xs ys S D) : z ≤ max (sumI (os.map (aL p))) (sumI ((negs bs).map (aL (-p)))) := by
 have n1 := St.IsLv.neg h.isD
 have := h.tr.top (p := p) (lvQ_sorted h.isS) (lvQ_pos h.vS).1 (lvQ_sorted n1) (lvQ_pos h.vD).2
 have e1 := (a_ws h.isS p).1
 have e2 := (a_ws n1 (-p)).1
 have k1 : wsL (-1) ((p : Int) : Rat) os = sumI (os.map (aL p)) := by
  unfold wsL
  congr 1
  exact List.map_congr_left fun l _ => ((a_wl p l).1.1).symm
 have k2 : wsL (-1) (((-p : Int)) : Rat) (negs bs) = sumI ((negs bs).map (aL (-p))) := by
  unfold wsL
  congr 1
  exact List.map_congr_left fun l _ => ((a_wl (-p) l).1.1).symm
 rw [e1, e2, k1, k2] at this
 exact this
/-- Whole shares are the shares of a whole quantity. -/
theorem qRest_whole (xs : List Int) (n : Nat) (t : Int) : ∀ j, qRest xs n (t : Rat) j = ((shRest xs n t j : Int) : Rat)
 | 0 => rfl
 | j + 1 => by rw [qRest, shRest, qRest_whole xs n t j, lessQ_whole, Rat.intCast_sub]
theorem qPart_whole (xs : List Int) (n : Nat) (t : Int) (j : Nat) : qPart xs n (t : Rat) j = ((shPart xs n t j : Int) : Rat) := by
 rw [qPart, shPart, qRest_whole, lessQ_whole]
theorem qRow_whole (xs : List Int) (n : Nat) (t : Int) (ys : List Int) : ∀ j, qRow xs n (t : Rat) (castR ys) j = castR (shRow xs n t ys j)
 | 0 => rfl
 | j + 1 => by rw [qRow, shRow, qRow_whole xs n t ys j, castR_get, castR_set, qPart_whole, Rat.intCast_add]
theorem qAll_whole (lv : List St.Lv) (n : Nat) (z : Int) : ∀ i, qAll lv n (z : Rat) i = castR (shAll lv n z i)
 | 0 => by
  rw [qAll, shAll]
  unfold castR
  rw [List.map_replicate]
  rfl
 | i + 1 => by rw [qAll, shAll, qAll_whole lv n z i, partAt_whole, qRow_whole]
theorem qAll_neg (lv : List St.Lv) (n : Nat) (z : Rat) : ∀ k, qAll (lv.map negV) n z k = qAll lv n z k
 | 0 => rfl
 | k + 1 => by
  have e : ∀ i, restAt (lvQ (lv.map negV)) z i = restAt (lvQ lv) z i := fun i => by
   induction i with
   | zero => rfl
   | succ i ih => rw [restAt, restAt, ih, (negV_get lv i).1]
  have e2 : partAt (lvQ (lv.map negV)) z k = partAt (lvQ lv) z k := by rw [partAt, partAt, e, (negV_get lv k).1]
  have e3 : ((lv.map negV)[k]?.getD Lv0).2.2 = (lv[k]?.getD Lv0).2.2 := by
   rw [List.getElem?_map]
   cases lv[k]? <;> rfl
  rw [qAll, qAll, qAll_neg lv n z k, e2, e3]
theorem sumF_cast {α : Type} (f : α → Int) (d : α) (l : List α) : ((sumI (l.map f) : Int) : Rat) = sumF (fun k => ((f (l[k]?.getD d) : Int) : Rat)) l.length := by
 rw [← sumI_sumF f d l l.length (Nat.le_refl _), List.take_length]
/-- The shares that Run tells fill from the last curve to the first. -/
theorem RunV.lf {os bs : List (List (Int × Int))} {z p wf : Int} {xs ys : List Int} {S D : List St.Lv} (hc : ckB os bs = 0) (h : RunV os bs z p wf xs ys S D) :
  LF os.length (fun i => ((aL p (os[i]?.getD []) : Int) : Rat)) (fun i => ((aM p (os[i]?.getD []) : Int) : Rat)) (fun i => ((xs[i]?.getD 0 : Int) : Rat)) (z : Rat) ∧
  LF bs.length (fun i => ((aL (-p) ((negs bs)[i]?.getD []) : Int) : Rat)) (fun i => ((aM (-p) ((negs bs)[i]?.getD []) : Int) : Rat)) (fun i => ((ys[i]?.getD 0 : Int) : Rat)) (z : Rat) := by
 obtain ⟨⟨m1, m2⟩, m3, m4⟩ := h.mid hc
 constructor
 ·have := qAll_lf (p := p) (q := (z : Rat)) h.isS h.vS (by exact_mod_cast m1) (by exact_mod_cast m2)
  rw [qAll_whole, ← h.x] at this
  have e : (fun i => (castR xs)[i]?.getD 0) = fun i => ((xs[i]?.getD 0 : Int) : Rat) := funext fun i => castR_get xs i
  rw [e] at this
  exact this
 ·have n1 := St.IsLv.neg h.isD
  have n2 := h.vD.neg
  have e := negs_len bs
  rw [← e] at n1 n2
  have := qAll_lf (p := -p) (q := (z : Rat)) n1 n2 (by exact_mod_cast m3) (by exact_mod_cast m4)
  rw [qAll_neg, e, List.length_map, qAll_whole, ← h.y] at this
  have e : (fun i => (castR ys)[i]?.getD 0) = fun i => ((ys[i]?.getD 0 : Int) : Rat) := funext fun i => castR_get ys i
  rw [e] at this
  exact this
theorem restAt_negL (l : List (Int × Int)) (z : Rat) : ∀ k, restAt (negL l) z k = restAt l z k
 | 0 => rfl
 | k + 1 => by rw [restAt, restAt, restAt_negL l z k, (negL_get1 l k).1]
theorem costAt_negL (l : List (Int × Int)) (z : Rat) : ∀ k, costAt (negL l) z k = -costAt l z k
 | 0 => by simp only [costAt]; grind
 | k + 1 => by
  have e2 : partAt (negL l) z k = partAt l z k := by rw [partAt, partAt, restAt_negL, (negL_get1 l k).1]
  rw [costAt, costAt, costAt_negL l z k, e2, (negL_get1 l k).2, Rat.intCast_neg]
  grind
theorem negL_aT (l : List (Int × Int)) : aT (negL l) = aT l := by
 unfold aT negL
 rw [List.map_map]
 rfl
theorem negL_len (l : List (Int × Int)) : (negL l).length = l.length := by simp [negL]
theorem sumF_mul (p : Rat) (f : Nat → Rat) : ∀ n, sumF (fun i => p * f i) n = p * sumF f n
 | 0 => by simp only [sumF]; grind
 | n + 1 => by rw [sumF, sumF_mul p f n, sumF]; grind
theorem sumF_sub (f g : Nat → Rat) : ∀ n, sumF (fun i => f i - g i) n = sumF f n - sumF g n
 | 0 => by simp only [sumF]; grind
 | n + 1 => by rw [sumF, sumF_sub f g n, sumF, sumF]; grind
/-- The cost of a division against its price: at least that, and that alone between the bounds. -/
theorem side_law {ls : List (List (Int × Int))} (p : Int) (hs : ∀ l ∈ ls, (l.map (·.2)).Pairwise (· < ·)) (hq : ∀ l ∈ ls, ∀ s ∈ l, 0 < s.1) {g : Nat → Rat} (h0 : ∀ i, i < ls.length → 0 ≤ g i ∧ g i ≤ ((aT (ls[i]?.getD []) : Int) : Rat)) :
  (p : Rat) * sumF g ls.length - ((gS p ls : Int) : Rat) ≤ sumF (fun i => czQ (ls[i]?.getD []) (g i)) ls.length ∧
  (sumF (fun i => czQ (ls[i]?.getD []) (g i)) ls.length ≤ (p : Rat) * sumF g ls.length - ((gS p ls : Int) : Rat) → ∀ i, i < ls.length → ((aL p (ls[i]?.getD []) : Int) : Rat) ≤ g i ∧ g i ≤ ((aM p (ls[i]?.getD []) : Int) : Rat)) := by
 have e : (p : Rat) * sumF g ls.length - ((gS p ls : Int) : Rat) = sumF (fun i => (p : Rat) * g i - ((aG p (ls[i]?.getD []) : Int) : Rat)) ls.length := by
  unfold gS
  rw [sumF_cast (aG p) [] ls, sumF_sub (fun i => (p : Rat) * g i) (fun k => ((aG p (ls[k]?.getD []) : Int) : Rat)), sumF_mul]
 have law := fun i (hi : i < ls.length) => czQ_law p (hs _ (getD_mem (d := []) hi)) (hq _ (getD_mem (d := []) hi)) (h0 i hi).1 (h0 i hi).2
 rw [e]
 refine ⟨sumF_le fun i hi => (law i hi).1, fun hle i hi => ?_⟩
 have := sumF_all (fun i hi => (law i hi).1) hle i hi
 exact (law i hi).2.1 this.symm
theorem chk_pos {up : Bool} {l : List (Int × Int)} (h : chk up l = 0) : ∀ s ∈ l, 0 < s.1 := fun s hs => by
 have := (chk_ok h).2.2.2 s hs
 unfold Bad at this
 omega
/-- No trade is worth more than Run's; an equal one is not lexicographically less. -/
theorem clear_opt {os bs : List (List (Int × Int))} {z p wf : Int} {xs ys : List Int} {S D : List St.Lv} (hc : ckB os bs = 0) (h : RunV os bs z p wf xs ys S D) {g t : Nat → Rat} {q : Rat}
  (hg : ∀ i, i < os.length → 0 ≤ g i ∧ g i ≤ ((aT (os[i]?.getD []) : Int) : Rat)) (ht : ∀ i, i < bs.length → 0 ≤ t i ∧ t i ≤ ((aT (bs[i]?.getD []) : Int) : Rat)) (h1 : sumF g os.length = q) (h2 : sumF t bs.length = q) {v : Rat}
  (hv : v = sumF (fun i => costAt (bs[i]?.getD []) (t i) (bs[i]?.getD []).length) bs.length - sumF (fun i => costAt (os[i]?.getD []) (g i) (os[i]?.getD []).length) os.length) :
  v ≤ (wf : Rat) ∧ (v = (wf : Rat) → (∀ i, i < os.length → (∀ j, j < i → ((xs[j]?.getD 0 : Int) : Rat) = g j) → ((xs[i]?.getD 0 : Int) : Rat) ≠ g i → ((xs[i]?.getD 0 : Int) : Rat) < g i) ∧
   ((∀ i, i < os.length → ((xs[i]?.getD 0 : Int) : Rat) = g i) → ∀ i, i < bs.length → (∀ j, j < i → ((ys[j]?.getD 0 : Int) : Rat) = t j) → ((ys[i]?.getD 0 : Int) : Rat) ≠ t i → ((ys[i]?.getD 0 : Int) : Rat) < t i)) := by
 obtain ⟨k1, k2, k3, k4⟩ := ckB_iff.1 hc
 have nl := negs_len bs
 have so : ∀ l ∈ os, (l.map (·.2)).Pairwise (· < ·) := fun l hl => chk_up (k3 l hl)
 have po : ∀ l ∈ os, ∀ s ∈ l, 0 < s.1 := fun l hl => chk_pos (k3 l hl)
 have sb : ∀ l ∈ negs bs, (l.map (·.2)).Pairwise (· < ·) := fun l hl => by
  obtain ⟨l', hl', rfl⟩ := List.mem_map.1 hl
  exact chk_dn (k4 l' hl')
 have pb : ∀ l ∈ negs bs, ∀ s ∈ l, 0 < s.1 := fun l hl s hs => by
  obtain ⟨l', hl', rfl⟩ := List.mem_map.1 hl
  obtain ⟨s', hs', rfl⟩ := List.mem_map.1 hs
  exact chk_pos (k4 l' hl') s' hs'
 have ht' : ∀ i, i < (negs bs).length → 0 ≤ t i ∧ t i ≤ ((aT ((negs bs)[i]?.getD []) : Int) : Rat) := fun i hi => by
  rw [negs_get, negL_aT]
  exact ht i (by omega)
 have A := side_law p so po hg
 have B := side_law (-p) sb pb ht'
 have eA : sumF (fun i => czQ (os[i]?.getD []) (g i)) os.length = sumF (fun i => costAt (os[i]?.getD []) (g i) (os[i]?.getD []).length) os.length := sumF_eq fun i hi => (costAt_cz _ _).symm
 have eB : sumF (fun i => czQ ((negs bs)[i]?.getD []) (t i)) (negs bs).length = -sumF (fun i => costAt (bs[i]?.getD []) (t i) (bs[i]?.getD []).length) bs.length := by
  rw [nl]
  have : ∀ n, sumF (fun i => czQ ((negs bs)[i]?.getD []) (t i)) n = -sumF (fun i => costAt (bs[i]?.getD []) (t i) (bs[i]?.getD []).length) n := by
   intro n
   induction n with
   | zero => simp only [sumF]; grind
   | succ n ih =>
    have e : czQ ((negs bs)[n]?.getD []) (t n) = -costAt (bs[n]?.getD []) (t n) (bs[n]?.getD []).length := by
     rw [negs_get, ← costAt_cz, negL_len, costAt_negL]
    rw [sumF, sumF, ih, e]
    grind
  exact this _
 rw [eA, h1] at A
 rw [eB, nl, h2, Rat.intCast_neg] at B
 have hw : (wf : Rat) = ((gS p os : Int) : Rat) + ((gS (-p) (negs bs) : Int) : Rat) := by rw [h.gain hc, Rat.intCast_add]
 generalize sumF (fun i => costAt (bs[i]?.getD []) (t i) (bs[i]?.getD []).length) bs.length = vb at *
 generalize sumF (fun i => costAt (os[i]?.getD []) (g i) (os[i]?.getD []).length) os.length = vo at *
 obtain ⟨l1, l2⟩ := h.lf hc
 refine ⟨by grind, fun heq => ?_⟩
 have b1 := A.2 (by grind)
 have b2 := B.2 (by grind)
 have hz : (z : Rat) ≤ q := by
  have htop := h.top hc
  have c1 : ((sumI (os.map (aL p)) : Int) : Rat) ≤ q := by
   rw [sumF_cast (aL p) [] os, ← h1]
   exact sumF_le fun i hi => (b1 i hi).1
  have c2 : ((sumI ((negs bs).map (aL (-p))) : Int) : Rat) ≤ q := by
   rw [sumF_cast (aL (-p)) [] (negs bs), ← h2, nl]
   exact sumF_le fun i hi => (b2 i hi).1
  rcases Int.le_total (sumI (os.map (aL p))) (sumI ((negs bs).map (aL (-p)))) with c | c
  ·have : (z : Rat) ≤ ((sumI ((negs bs).map (aL (-p))) : Int) : Rat) := Rat.intCast_le_intCast.2 (by omega)
   grind
  ·have : (z : Rat) ≤ ((sumI (os.map (aL p)) : Int) : Rat) := Rat.intCast_le_intCast.2 (by omega)
   grind
 refine ⟨fun i hi he hne => l1.least (fun i hi => (b1 i hi).1) (fun i hi => (b1 i hi).2) (by rw [h1]; exact hz) hi he hne, fun hall i hi he hne => ?_⟩
 exact l2.least (fun i hi => (b2 i (by omega)).1) (fun i hi => (b2 i (by omega)).2) (by rw [h2]; exact hz) hi he hne

end Go.Proofs.YtjajigkacccdgaaGreat
