/-
Plain law of Share over rationals: the shares fill from the last curve to the first between what the curves hold below and up to a price. Rationals of growing size: every operation rises by one level. Canonical rationals in memory, at any size. Short names for the steps of a drawn region. No statement of the seat is proved here; no conditions beyond those of each theorem.
-/
import Derived.Test.YtjajigkacccdgaaGreatTdBR
import Derived.Test.YtjajigkacccdgaaGreatTdBS
import Derived.Test.YtjajigkacccdgaaGreatTdAY
import Derived.Test.YtjajigkacccdgaaGreatTdBG
import Derived.Test.YtjajigkacccdgaaGreatTdAA
import Derived.OrdersHeld
import Derived.Deep.RegionHeld3
namespace Go.Proofs.YtjajigkacccdgaaGreat
set_option linter.unusedVariables false
set_option linter.unusedSimpArgs false
open Go.RowKit
open Wd

/-- What is left of t when the last j curves have given, and what the next gives. -/
def qRest (xs : List Int) (n : Nat) (t : Rat) : Nat → Rat
 | 0 => t
 | j + 1 => qRest xs n t j - lessQ (qRest xs n t j) (xs[n - 1 - j]?.getD 0)
def qPart (xs : List Int) (n : Nat) (t : Rat) (j : Nat) : Rat := lessQ (qRest xs n t j) (xs[n - 1 - j]?.getD 0)
def qRow (xs : List Int) (n : Nat) (t : Rat) (ys : List Rat) : Nat → List Rat
 | 0 => ys
 | j + 1 => (qRow xs n t ys j).set (n - 1 - j) ((qRow xs n t ys j)[n - 1 - j]?.getD 0 + qPart xs n t j)
def qAll (lv : List St.Lv) (n : Nat) (z : Rat) : Nat → List Rat
 | 0 => List.replicate n 0
 | i + 1 => qRow (lv[i]?.getD Lv0).2.2 n (partAt (lvQ lv) z i) (qAll lv n z i) n
theorem qRow_len (xs : List Int) (n : Nat) (t : Rat) (ys : List Rat) : ∀ j, (qRow xs n t ys j).length = ys.length
 | 0 => rfl
 | j + 1 => by rw [qRow, List.length_set, qRow_len xs n t ys j]
theorem qAll_len (lv : List St.Lv) (n : Nat) (z : Rat) : ∀ i, (qAll lv n z i).length = n
 | 0 => by simp [qAll]
 | i + 1 => by rw [qAll, qRow_len, qAll_len lv n z i]
theorem qRow_get {xs : List Int} {n : Nat} {t : Rat} {ys : List Rat} (hy : ys.length = n) : ∀ j, j ≤ n → ∀ i, i < n → (qRow xs n t ys j)[i]?.getD 0 = if n - j ≤ i then ys[i]?.getD 0 + qPart xs n t (n - 1 - i) else ys[i]?.getD 0
 | 0, _, i, hi => by rw [if_neg (by omega)]; rfl
 | j + 1, hj, i, hi => by
  have ih := qRow_get (xs := xs) (t := t) hy j (by omega)
  rw [qRow]
  by_cases e : n - 1 - j = i
  ·subst e
   rw [List.getElem?_set_self (by rw [qRow_len]; omega), if_pos (by omega)]
   simp only [Option.getD_some]
   rw [ih _ hi, if_neg (by omega), show n - 1 - (n - 1 - j) = j by omega]
  ·rw [List.getElem?_set_ne e, ih i hi]
   by_cases c : n - j ≤ i
   ·rw [if_pos c, if_pos (by omega)]
   ·rw [if_neg c, if_neg (by omega)]
theorem qAll_get {lv : List St.Lv} {n : Nat} {z : Rat} {i : Nat} (hi : i < n) : ∀ k, (qAll lv n z k)[i]?.getD 0 = sumF (fun k => qPart (lv[k]?.getD Lv0).2.2 n (partAt (lvQ lv) z k) (n - 1 - i)) k
 | 0 => by simp [qAll, sumF, hi]
 | k + 1 => by
  rw [qAll, qRow_get (qAll_len ..) n (Nat.le_refl _) i hi, if_pos (by omega), qAll_get hi k, sumF]
def NN (xs : List Int) : Prop := ∀ y ∈ xs, 0 ≤ y
theorem NN.get {xs : List Int} (h : NN xs) (i : Nat) : 0 ≤ xs[i]?.getD 0 := by
 by_cases hi : i < xs.length
 ·exact h _ (getD_mem hi)
 ·rw [List.getElem?_eq_none (by omega)]; exact Int.le_refl _
section
variable {xs : List Int} {n : Nat} {t : Rat}
theorem qRest_bd (hx : NN xs) (h0 : 0 ≤ t) : ∀ j, 0 ≤ qRest xs n t j ∧ qRest xs n t j ≤ t
 | 0 => ⟨h0, Rat.le_refl⟩
 | j + 1 => by
  obtain ⟨i1, i2⟩ := qRest_bd hx h0 j
  obtain ⟨m1, m2, m3, m4⟩ := lessQ_spec i1 (hx.get (n - 1 - j))
  rw [qRest]
  constructor <;> grind
theorem qPart_bd (hx : NN xs) (h0 : 0 ≤ t) (j : Nat) : 0 ≤ qPart xs n t j ∧ qPart xs n t j ≤ (((xs[n - 1 - j]?.getD 0 : Int)) : Rat) := by
 obtain ⟨i1, i2⟩ := qRest_bd (n := n) hx h0 j
 obtain ⟨m1, m2, m3, m4⟩ := lessQ_spec i1 (hx.get (n - 1 - j))
 exact ⟨m1, m2⟩
theorem qPart_zero (hx : NN xs) (j : Nat) : qPart xs n 0 j = 0 := by
 obtain ⟨i1, i2⟩ := qRest_bd (n := n) (t := 0) hx Rat.le_refl j
 obtain ⟨m1, m2, m3, m4⟩ := lessQ_spec i1 (hx.get (n - 1 - j))
 unfold qPart
 grind
theorem qRest_part (j : Nat) : qRest xs n t (j + 1) = qRest xs n t j - qPart xs n t j := rfl
theorem qRest_anti (hx : NN xs) (h0 : 0 ≤ t) {j k : Nat} (h : j ≤ k) : qRest xs n t k ≤ qRest xs n t j := by
 induction h with
 | refl => exact Rat.le_refl
 | @step m h ih =>
  have := (qPart_bd (n := n) hx h0 m).1
  rw [Nat.succ_eq_add_one, qRest_part]
  grind
/-- When a curve gives, those behind it have given all. -/
theorem qPart_last (hx : NN xs) (h0 : 0 ≤ t) {j k : Nat} (hk : k < j) (hj : 0 < qPart xs n t j) : qPart xs n t k = (((xs[n - 1 - k]?.getD 0 : Int)) : Rat) := by
 have h1 : 0 < qRest xs n t (k + 1) := by
  have h2 := qRest_anti (n := n) hx h0 (show k + 1 ≤ j by omega)
  obtain ⟨i1, i2⟩ := qRest_bd (n := n) hx h0 j
  obtain ⟨m1, m2, m3, m4⟩ := lessQ_spec i1 (hx.get (n - 1 - j))
  unfold qPart at hj
  grind
 obtain ⟨i1, i2⟩ := qRest_bd (n := n) hx h0 k
 obtain ⟨m1, m2, m3, m4⟩ := lessQ_spec i1 (hx.get (n - 1 - k))
 rw [qRest] at h1
 unfold qPart
 grind
end
theorem sumI_take_le {xs : List Int} (hx : NN xs) : ∀ k, sumI (xs.take k) ≤ sumI (xs.take (k + 1)) := fun k => by
 by_cases hk : k < xs.length
 ·rw [take_last hk]
  have := hx.get k
  omega
 ·rw [List.take_of_length_le (by omega), List.take_of_length_le (by omega)]
  exact Int.le_refl _
section
variable {xs : List Int} {n : Nat} {t : Rat}
theorem qRest_le (hx : NN xs) (hl : xs.length = n) (h0 : 0 ≤ t) (h1 : t ≤ ((sumI xs : Int) : Rat)) : ∀ j, j ≤ n → qRest xs n t j ≤ ((sumI (xs.take (n - j)) : Int) : Rat)
 | 0, _ => by rw [Nat.sub_zero, List.take_of_length_le (by omega)]; exact h1
 | j + 1, hj => by
  have ih := qRest_le hx hl h0 h1 j (by omega)
  rw [show n - j = (n - 1 - j) + 1 by omega, take_last (by omega), Rat.intCast_add] at ih
  obtain ⟨i1, i2⟩ := qRest_bd (n := n) hx h0 j
  obtain ⟨m1, m2, m3, m4⟩ := lessQ_spec i1 (hx.get (n - 1 - j))
  have hp : (0 : Rat) ≤ ((sumI (xs.take (n - 1 - j)) : Int) : Rat) := by
   have : ∀ k, 0 ≤ sumI (xs.take k) := fun k => by
    induction k with
    | zero => simp [sumI]
    | succ k ih => exact Int.le_trans ih (sumI_take_le hx k)
   exact_mod_cast this _
  rw [qRest, show n - (j + 1) = n - 1 - j by omega]
  grind
theorem qRest_end (hx : NN xs) (hl : xs.length = n) (h0 : 0 ≤ t) (h1 : t ≤ ((sumI xs : Int) : Rat)) : qRest xs n t n = 0 := by
 have h2 := qRest_le hx hl h0 h1 n (Nat.le_refl _)
 have h3 := (qRest_bd (n := n) hx h0 n).1
 rw [Nat.sub_self, List.take_zero] at h2
 have h4 : ((sumI [] : Int) : Rat) = 0 := rfl
 grind
theorem qRest_full (hx : NN xs) (hl : xs.length = n) : ∀ j, j ≤ n → qRest xs n ((sumI xs : Int) : Rat) j = ((sumI (xs.take (n - j)) : Int) : Rat)
 | 0, _ => by rw [Nat.sub_zero, List.take_of_length_le (by omega)]; rfl
 | j + 1, hj => by
  have ih := qRest_full hx hl j (by omega)
  rw [show n - j = (n - 1 - j) + 1 by omega, take_last (by omega), Rat.intCast_add] at ih
  have hp : (0 : Rat) ≤ ((sumI (xs.take (n - 1 - j)) : Int) : Rat) := by
   have : ∀ k, 0 ≤ sumI (xs.take k) := fun k => by
    induction k with
    | zero => simp [sumI]
    | succ k ih => exact Int.le_trans ih (sumI_take_le hx k)
   exact_mod_cast this _
  have hg : (0 : Rat) ≤ ((xs[n - 1 - j]?.getD 0 : Int) : Rat) := by exact_mod_cast hx.get _
  obtain ⟨m1, m2, m3, m4⟩ := lessQ_spec (z := qRest xs n ((sumI xs : Int) : Rat) j) (by grind) (hx.get (n - 1 - j))
  rw [qRest, show n - (j + 1) = n - 1 - j by omega]
  grind
theorem qPart_full (hx : NN xs) (hl : xs.length = n) {j : Nat} (hj : j < n) : qPart xs n ((sumI xs : Int) : Rat) j = ((xs[n - 1 - j]?.getD 0 : Int) : Rat) := by
 have h1 := qRest_full hx hl j (by omega)
 have h2 := qRest_full hx hl (j + 1) (by omega)
 rw [show n - j = (n - 1 - j) + 1 by omega, take_last (by omega), Rat.intCast_add] at h1
 rw [qRest_part, show n - (j + 1) = n - 1 - j by omega] at h2
 grind
end
theorem sumF_add (f g : Nat → Rat) : ∀ n, sumF (fun i => f i + g i) n = sumF f n + sumF g n
 | 0 => by simp only [sumF]; grind
 | n + 1 => by rw [sumF, sumF_add f g n, sumF, sumF]; grind
theorem sumF_first (f : Nat → Rat) : ∀ n, sumF f (n + 1) = f 0 + sumF (fun i => f (i + 1)) n
 | 0 => by simp only [sumF]; grind
 | n + 1 => by rw [sumF, sumF_first f n, sumF]; grind
theorem sumF_rev (g : Nat → Rat) : ∀ n, sumF (fun i => g (n - 1 - i)) n = sumF g n
 | 0 => rfl
 | n + 1 => by
  rw [sumF_first, sumF, ← sumF_rev g n]
  have e : sumF (fun i => g (n + 1 - 1 - (i + 1))) n = sumF (fun i => g (n - 1 - i)) n := sumF_eq fun i hi => by
   show g (n + 1 - 1 - (i + 1)) = g (n - 1 - i)
   rw [show n + 1 - 1 - (i + 1) = n - 1 - i by omega]
  rw [e, show n + 1 - 1 - 0 = n by omega]
  grind
theorem qPart_sum {xs : List Int} {n : Nat} {t : Rat} : ∀ j, sumF (fun j => qPart xs n t j) j = t - qRest xs n t j
 | 0 => by simp only [sumF, qRest]; grind
 | j + 1 => by rw [sumF, qPart_sum j, qRest_part]; grind
theorem restAt_part (l : List (Int × Int)) (q : Rat) (k : Nat) : restAt l q (k + 1) = restAt l q k - partAt l q k := rfl
theorem partAt_sum (l : List (Int × Int)) (q : Rat) : ∀ k, sumF (fun k => partAt l q k) k = q - restAt l q k
 | 0 => by simp only [sumF, restAt]; grind
 | k + 1 => by rw [sumF, partAt_sum l q k, restAt_part]; grind
/-- What is left in the end: nothing. -/
theorem restAt_end : ∀ {l : List (Int × Int)} {z : Rat}, (∀ s ∈ l, 0 ≤ s.1) → 0 ≤ z → z ≤ ((aT l : Int) : Rat) → restAt l z l.length = 0
 | [], z, _, h0, h1 => by
  have : ((aT [] : Int) : Rat) = 0 := rfl
  show z = 0
  grind
 | s :: l, z, h, h0, h1 => by
  have h2 := h s (List.mem_cons_self ..)
  have hl := fun t ht => h t (List.mem_cons_of_mem _ ht)
  obtain ⟨m1, m2, m3, m4⟩ := lessQ_spec (z := z) h0 h2
  have hT : (0 : Rat) ≤ ((aT l : Int) : Rat) := by exact_mod_cast aT_nonneg hl
  rw [aT_cons, Rat.intCast_add] at h1
  rw [List.length_cons, restAt_hd]
  exact restAt_end hl (by grind) (by grind)
/-- Between the bounds at a price: levels below it are taken whole, levels above it not at all. -/
theorem partAt_side (p : Int) : ∀ {l : List (Int × Int)} {z : Rat}, (l.map (·.2)).Pairwise (· < ·) → (∀ s ∈ l, 0 ≤ s.1) → ((aL p l : Int) : Rat) ≤ z → z ≤ ((aM p l : Int) : Rat) → ∀ k, k < l.length →
  ((l[k]?.getD (0, 0)).2 < p → partAt l z k = (((l[k]?.getD (0, 0)).1 : Int) : Rat)) ∧ (p < (l[k]?.getD (0, 0)).2 → partAt l z k = 0) ∧ 0 ≤ partAt l z k ∧ partAt l z k ≤ (((l[k]?.getD (0, 0)).1 : Int) : Rat)
 | [], z, _, _, _, _, k, hk => by simp at hk
 | s :: l, z, hs, h, h0, h1, k, hk => by
  have h2 := h s (List.mem_cons_self ..)
  rw [List.map_cons, List.pairwise_cons] at hs
  have hab : ∀ t ∈ l, s.2 < t.2 := fun t ht => hs.1 _ (List.mem_map.2 ⟨t, ht, rfl⟩)
  have hl := fun t ht => h t (List.mem_cons_of_mem _ ht)
  have hb := (aL_le_aM p hl).1
  have hz : (0 : Rat) ≤ z := by
   have : (0 : Rat) ≤ ((aL p (s :: l) : Int) : Rat) := by exact_mod_cast (aL_le_aM p h).1
   grind
  have hb' : (0 : Rat) ≤ ((aL p l : Int) : Rat) := by exact_mod_cast hb
  obtain ⟨m1, m2, m3, m4⟩ := lessQ_spec (z := z) hz h2
  rw [aL_cons, Rat.intCast_add] at h0
  rw [aM_cons, Rat.intCast_add] at h1
  have hq : (0 : Rat) ≤ ((s.1 : Int) : Rat) := by exact_mod_cast h2
  have hr : ((aL p l : Int) : Rat) ≤ z - lessQ z s.1 ∧ z - lessQ z s.1 ≤ ((aM p l : Int) : Rat) ∧ (s.2 < p → lessQ z s.1 = ((s.1 : Int) : Rat)) ∧ (p < s.2 → lessQ z s.1 = 0) := by
   by_cases c1 : s.2 < p
   ·rw [if_pos c1] at h0
    rw [if_pos (by omega)] at h1
    exact ⟨by grind, by grind, fun _ => by grind, fun hh => by omega⟩
   ·rw [if_neg c1] at h0
    obtain ⟨a1, a2, a3⟩ := above_zero (p := p) (l := l) fun t ht => by have := hab t ht; omega
    rw [a2] at h1
    rw [a1] at h0
    rw [a1, a2]
    have z0 : ((0 : Int) : Rat) = 0 := rfl
    rw [z0] at h0 h1 ⊢
    by_cases c2 : s.2 ≤ p
    ·rw [if_pos c2] at h1
     exact ⟨by grind, by grind, fun hh => by omega, fun hh => by omega⟩
    ·rw [if_neg c2, z0] at h1
     exact ⟨by grind, by grind, fun hh => by omega, fun hh => by grind⟩
  cases k with
  | zero =>
   have e : partAt (s :: l) z 0 = lessQ z s.1 := rfl
   rw [e]
   exact ⟨hr.2.2.1, hr.2.2.2, m1, m2⟩
  | succ k =>
   rw [partAt_hd]
   exact partAt_side p hs.2 hl hr.1 hr.2.1 k (by simpa using hk)
theorem sumI_sumF {α : Type} (f : α → Int) (d : α) (l : List α) : ∀ k, k ≤ l.length → ((sumI ((l.take k).map f) : Int) : Rat) = sumF (fun k => ((f (l[k]?.getD d) : Int) : Rat)) k
 | 0, _ => by simp [sumI, sumF]
 | k + 1, hk => by rw [sumI_takeL f (by omega) d, Rat.intCast_add, sumI_sumF f d l k (by omega), sumF]
theorem VL.nn {up : Bool} {n : Nat} {lv : List St.Lv} (hv : VL up n lv) {k : Nat} (hk : k < lv.length) : NN (lv[k]?.getD Lv0).2.2 ∧ (lv[k]?.getD Lv0).2.2.length = n := by
 obtain ⟨h1, h2⟩ := hv.parts _ (getD_mem (d := Lv0) hk)
 exact ⟨fun y hy => (h2 y hy).1, h1⟩
/-- The shares of a quantity fill from the last curve to the first between the bounds at a price. -/
theorem qAll_lf {p : Int} {up : Bool} {ls : List (List (Int × Int))} {lv : List St.Lv} {q : Rat} (h : St.IsLv true ls.length (St.tri 0 ls) lv) (hv : VL up ls.length lv) (h1 : ((aL p (lvQ lv) : Int) : Rat) ≤ q) (h2 : q ≤ ((aM p (lvQ lv) : Int) : Rat)) :
  LF ls.length (fun i => ((aL p (ls[i]?.getD []) : Int) : Rat)) (fun i => ((aM p (ls[i]?.getD []) : Int) : Rat)) (fun i => (qAll lv ls.length q lv.length)[i]?.getD 0) q := by
 have hq := (lvQ_pos hv).1
 have hs := lvQ_sorted h
 have hp := partAt_side p hs hq h1 h2
 have hab := aL_le_aM p hq
 have h0 : 0 ≤ q := by
  have : (0 : Rat) ≤ ((aL p (lvQ lv) : Int) : Rat) := by exact_mod_cast hab.1
  grind
 have hT : q ≤ ((aT (lvQ lv) : Int) : Rat) := by
  have : ((aM p (lvQ lv) : Int) : Rat) ≤ ((aT (lvQ lv) : Int) : Rat) := by exact_mod_cast hab.2.2
  grind
 rw [lvQ_len] at hp
 have hpk : ∀ k, k < lv.length → ((lv[k]?.getD Lv0).1 < p → partAt (lvQ lv) q k = ((sumI (lv[k]?.getD Lv0).2.2 : Int) : Rat)) ∧ (p < (lv[k]?.getD Lv0).1 → partAt (lvQ lv) q k = 0) ∧ 0 ≤ partAt (lvQ lv) q k ∧ partAt (lvQ lv) q k ≤ ((sumI (lv[k]?.getD Lv0).2.2 : Int) : Rat) := fun k hk => by
  have := hp k hk
  rw [lvQ_snd, lvQ_fst, (hv.sum _ (getD_mem (d := Lv0) hk)).1] at this
  exact this
 have lo : ∀ i, i < ls.length → ((aL p (ls[i]?.getD []) : Int) : Rat) = sumF (fun k => (((if (lv[k]?.getD Lv0).1 < p then (lv[k]?.getD Lv0).2.2[i]?.getD 0 else 0 : Int)) : Rat)) lv.length := fun i hi => by
  rw [← (St.parts_side h p hi).1, ← sumI_sumF (fun x : St.Lv => if x.1 < p then x.2.2[i]?.getD 0 else 0) Lv0 lv _ (Nat.le_refl _), List.take_length]
 have hi' : ∀ i, i < ls.length → ((aM p (ls[i]?.getD []) : Int) : Rat) = sumF (fun k => (((if (lv[k]?.getD Lv0).1 ≤ p then (lv[k]?.getD Lv0).2.2[i]?.getD 0 else 0 : Int)) : Rat)) lv.length := fun i hi => by
  rw [← (St.parts_side h p hi).2, ← sumI_sumF (fun x : St.Lv => if x.1 ≤ p then x.2.2[i]?.getD 0 else 0) Lv0 lv _ (Nat.le_refl _), List.take_length]
 have z0 : ((0 : Int) : Rat) = 0 := rfl
 have hterm : ∀ i, i < ls.length → ∀ k, k < lv.length → (((if (lv[k]?.getD Lv0).1 < p then (lv[k]?.getD Lv0).2.2[i]?.getD 0 else 0 : Int)) : Rat) ≤ qPart (lv[k]?.getD Lv0).2.2 ls.length (partAt (lvQ lv) q k) (ls.length - 1 - i) ∧ qPart (lv[k]?.getD Lv0).2.2 ls.length (partAt (lvQ lv) q k) (ls.length - 1 - i) ≤ (((if (lv[k]?.getD Lv0).1 ≤ p then (lv[k]?.getD Lv0).2.2[i]?.getD 0 else 0 : Int)) : Rat) := fun i hi k hk => by
  obtain ⟨hn, hl⟩ := hv.nn hk
  obtain ⟨k1, k2, k3, k4⟩ := hpk k hk
  have b := qPart_bd (n := ls.length) hn k3 (ls.length - 1 - i)
  rw [show ls.length - 1 - (ls.length - 1 - i) = i by omega] at b
  by_cases c1 : (lv[k]?.getD Lv0).1 < p
  ·have e := qPart_full hn hl (j := ls.length - 1 - i) (by omega)
   rw [show ls.length - 1 - (ls.length - 1 - i) = i by omega] at e
   rw [k1 c1, if_pos c1, if_pos (by omega), e]
   exact ⟨Rat.le_refl, Rat.le_refl⟩
  ·rw [if_neg c1, z0]
   by_cases c2 : (lv[k]?.getD Lv0).1 ≤ p
   ·rw [if_pos c2]; exact b
   ·rw [if_neg c2, z0, k2 (by omega), qPart_zero hn]
    exact ⟨Rat.le_refl, Rat.le_refl⟩
 refine ⟨fun i hi => ?_, fun i hi => ?_, ?_, fun i hi hlt k hk hik => ?_⟩
 ·show _ ≤ (qAll lv ls.length q lv.length)[i]?.getD 0
  rw [qAll_get hi, lo i hi]
  exact sumF_le fun k hk => (hterm i hi k hk).1
 ·show (qAll lv ls.length q lv.length)[i]?.getD 0 ≤ _
  rw [qAll_get hi, hi' i hi]
  exact sumF_le fun k hk => (hterm i hi k hk).2
 ·have key : ∀ m, m ≤ lv.length → sumF (fun i => (qAll lv ls.length q m)[i]?.getD 0) ls.length = sumF (fun k => partAt (lvQ lv) q k) m := by
   intro m
   induction m with
   | zero =>
    intro _
    have : ∀ n, n ≤ ls.length → sumF (fun i => (qAll lv ls.length q 0)[i]?.getD 0) n = 0 := by
     intro n
     induction n with
     | zero => intro _; rfl
     | succ n ih =>
      intro hn
      have e : (qAll lv ls.length q 0)[n]?.getD 0 = 0 := by simp [qAll, List.getElem?_replicate]; split <;> rfl
      rw [sumF, ih (by omega), e]
      grind
    exact this _ (Nat.le_refl _)
   | succ m ih =>
    intro hm
    obtain ⟨hn, hl⟩ := hv.nn (show m < lv.length by omega)
    obtain ⟨k1, k2, k3, k4⟩ := hpk m (by omega)
    have e : sumF (fun i => (qAll lv ls.length q (m + 1))[i]?.getD 0) ls.length = sumF (fun i => (qAll lv ls.length q m)[i]?.getD 0 + (fun j => qPart (lv[m]?.getD Lv0).2.2 ls.length (partAt (lvQ lv) q m) j) (ls.length - 1 - i)) ls.length := sumF_eq fun i hi => by
     rw [qAll, qRow_get (qAll_len ..) ls.length (Nat.le_refl _) i hi, if_pos (by omega)]
    rw [e, sumF_add, ih (by omega), sumF_rev (fun j => qPart (lv[m]?.getD Lv0).2.2 ls.length (partAt (lvQ lv) q m) j), qPart_sum, qRest_end hn hl k3 k4, sumF]
    grind
  rw [key _ (Nat.le_refl _), partAt_sum]
  have e := restAt_end hq h0 hT
  rw [lvQ_len] at e
  rw [e]
  grind
 ·show (qAll lv ls.length q lv.length)[k]?.getD 0 = _
  replace hlt : ((aL p (ls[i]?.getD []) : Int) : Rat) < (qAll lv ls.length q lv.length)[i]?.getD 0 := hlt
  rw [qAll_get hi, lo i hi] at hlt
  rw [qAll_get hk, hi' k hk]
  -- some level gives more than its whole: it is the one at the price
  have hex : ∃ m, m < lv.length ∧ (((if (lv[m]?.getD Lv0).1 < p then (lv[m]?.getD Lv0).2.2[i]?.getD 0 else 0 : Int)) : Rat) < qPart (lv[m]?.getD Lv0).2.2 ls.length (partAt (lvQ lv) q m) (ls.length - 1 - i) := by
   apply Classical.byContradiction
   intro hno
   have : sumF (fun k => qPart (lv[k]?.getD Lv0).2.2 ls.length (partAt (lvQ lv) q k) (ls.length - 1 - i)) lv.length ≤ sumF (fun k => (((if (lv[k]?.getD Lv0).1 < p then (lv[k]?.getD Lv0).2.2[i]?.getD 0 else 0 : Int)) : Rat)) lv.length := sumF_le fun m hm => by
    have := fun hh => hno ⟨m, hm, hh⟩
    grind
   grind
  obtain ⟨m, hm, hmlt⟩ := hex
  obtain ⟨hn, hl⟩ := hv.nn hm
  obtain ⟨k1, k2, k3, k4⟩ := hpk m hm
  have hmp : (lv[m]?.getD Lv0).1 = p := by
   rcases Int.lt_trichotomy (lv[m]?.getD Lv0).1 p with c | c | c
   ·have e := qPart_full hn hl (j := ls.length - 1 - i) (by omega)
    rw [show ls.length - 1 - (ls.length - 1 - i) = i by omega] at e
    rw [k1 c, if_pos c, e] at hmlt
    exact absurd hmlt Rat.lt_irrefl
   ·exact c
   ·rw [k2 c, qPart_zero hn, if_neg (by omega), z0] at hmlt
    exact absurd hmlt Rat.lt_irrefl
  rw [if_neg (by omega), z0] at hmlt
  refine sumF_eq fun j hj => ?_
  obtain ⟨jn, jl⟩ := hv.nn hj
  obtain ⟨j1, j2, j3, j4⟩ := hpk j hj
  rcases Int.lt_trichotomy (lv[j]?.getD Lv0).1 p with c | c | c
  ·have e := qPart_full jn jl (j := ls.length - 1 - k) (by omega)
   rw [show ls.length - 1 - (ls.length - 1 - k) = k by omega] at e
   rw [j1 c, if_pos (by omega), e]
  ·have ejm : j = m := by
    rcases Nat.lt_trichotomy j m with hh | hh | hh
    ·have := St.lv_sorted h.1 hh hm
     rw [show ((0 : Int), (0 : Int), ([] : List Int)) = Lv0 from rfl, c, hmp] at this
     exact absurd this St.ltU_irr
    ·exact hh
    ·have := St.lv_sorted h.1 hh hj
     rw [show ((0 : Int), (0 : Int), ([] : List Int)) = Lv0 from rfl, c, hmp] at this
     exact absurd this St.ltU_irr
   subst ejm
   have e := qPart_last (n := ls.length) hn k3 (show ls.length - 1 - k < ls.length - 1 - i by omega) hmlt
   rw [show ls.length - 1 - (ls.length - 1 - k) = k by omega] at e
   rw [e, if_pos (by omega)]
  ·rw [j2 c, qPart_zero jn, if_neg (by omega), z0]

end Go.Proofs.YtjajigkacccdgaaGreat

namespace Go.Proofs.YtjajigkacccdgaaGreat
set_option linter.unusedVariables false
set_option linter.unusedSimpArgs false
open Go.RowKit
open Wd

/-- The bound of level k. -/
def PB (k : Nat) : Nat := 4294967296 ^ (7 * 3 ^ k)

theorem pb_mono {a b : Nat} (h : a ≤ b) : PB a ≤ PB b := Nat.pow_le_pow_right (by decide) (Nat.mul_le_mul_left _ (Nat.pow_le_pow_right (by decide) h))



/-- A rational of level k. -/
def Lv (k : Nat) (q : Rat) : Prop := q.num.natAbs < PB k ∧ q.den < PB k
theorem Lv.mono {a b : Nat} {q : Rat} (h : Lv a q) (hab : a ≤ b) : Lv b q := ⟨Nat.lt_of_lt_of_le h.1 (pb_mono hab), Nat.lt_of_lt_of_le h.2 (pb_mono hab)⟩

theorem lv_mk {n : Int} {d N : Nat} (hd : d ≠ 0) (h1 : n.natAbs < N) (h2 : d < N) : (mkRat n d).num.natAbs < N ∧ (mkRat n d).den < N := by
 rw [mk_num _ _ hd, mk_den _ _ hd, Int.natAbs_tdiv, Int.natAbs_natCast]
 exact ⟨Nat.lt_of_le_of_lt (Nat.div_le_self _ _) h1, Nat.lt_of_le_of_lt (Nat.div_le_self _ _) h2⟩
theorem Lv.self (q : Rat) : q = mkRat q.num ((q.den : Nat) : Int).natAbs := by rw [Int.natAbs_natCast, Rat.mkRat_self]
section
variable {k : Nat} {a b : Rat}




end
/-- An operand of level k. -/
def QK (k : Nat) (w : World) (neg : Bool) (A : Option Addr) (n c : Nat) (neg' : Bool) (A' : Option Addr) (n' c' : Nat) (q : Rat) : Prop := QAt (PB k) (PB k) w neg A n c neg' A' n' c' q
section
variable {k j : Nat} {w w' : World} {an an' bn bn' : Bool} {aA aA' bA bA' : Option Addr} {ak ac ak' ac' bk bc bk' bc' : Nat} {q qa qb : Rat}
theorem QK.below (h : QK k w an aA ak ac an' aA' ak' ac' q) (hb : Below w.heap.size w w') : QK k w' an aA ak ac an' aA' ak' ac' q := QAt.below h hb
theorem QK.mono (h : QK k w an aA ak ac an' aA' ak' ac' q) (hkj : k ≤ j) : QK j w an aA ak ac an' aA' ak' ac' q := by
 obtain ⟨na, da, h1, h2, h3, h4⟩ := h
 exact ⟨na, da, h1, Nat.lt_of_lt_of_le h2 (pb_mono hkj), Nat.lt_of_lt_of_le h3 (pb_mono hkj), h4⟩
theorem QK.lv (h : QK k w an aA ak ac an' aA' ak' ac' q) : Lv k q := by
 obtain ⟨na, da, h1, h2, h3, rfl⟩ := h
 exact lv_mk (den_nz da) h2 h3








end
end Go.Proofs.YtjajigkacccdgaaGreat
namespace Go.Proofs.YtjajigkacccdgaaGreat
set_option linter.unusedVariables false
set_option linter.unusedSimpArgs false
open Go.RowKit
open Wd
/-- The canonical rational q lies in two slices. -/
def RQ (w : World) (q : Rat) (A : Option Addr) (k c : Nat) (A' : Option Addr) (k' c' : Nat) : Prop := k ≤ c ∧ k' ≤ c' ∧ Wat w A k (digs q.num.natAbs) ∧ Wat w A' k' (denW q.den)
section
variable {w w' : World} {q : Rat} {A A' : Option Addr} {k c k' c' : Nat}
theorem RQ.below (h : RQ w q A k c A' k' c') (hb : Below w.heap.size w w') : RQ w' q A k c A' k' c' := ⟨h.1, h.2.1, h.2.2.1.below hb, h.2.2.2.below hb⟩
theorem RQ.put4 {g o : Nat} {a b : Bool} {B B' : Option Addr} {j d j' d' : Nat} {t : TypeId} {cs : Array Value} (h : RQ w q A k c A' k' c') (hb : Blk w g t cs) (hn : NoInt cs) : RQ (qst w g o a b B B' j d j' d') q A k c A' k' c' :=
 ⟨h.1, h.2.1, h.2.2.1.put4 hb hn, h.2.2.2.put4 hb hn⟩

theorem QK.put4 {K : Nat} {an an' : Bool} {g o : Nat} {a b : Bool} {B B' : Option Addr} {j d j' d' : Nat} {t : TypeId} {cs : Array Value} (h : QK K w an A k c an' A' k' c' q) (hb : Blk w g t cs) (hn : NoInt cs) : QK K (qst w g o a b B B' j d j' d') an A k c an' A' k' c' q := QAt.put4 h hb hn
end

end Go.Proofs.YtjajigkacccdgaaGreat

namespace Go.Proofs.YtjajigkacccdgaaGreat
set_option linter.unusedVariables false
set_option linter.unusedSimpArgs false
open Go

theorem p1 {α : Type} {xs : List α} {i : Nat} (h : i < xs.toArray.size) : xs.toArray[i] = xs[i]'(by simpa using h) := List.getElem_toArray h
theorem p2 {α : Type} {a : α} {xs : List α} (h : 0 < (a :: xs).length) : (a :: xs)[0] = a := rfl
theorem p3 {α : Type} {a : α} {xs : List α} {i : Nat} (h : i + 1 < (a :: xs).length) : (a :: xs)[i + 1] = xs[i]'(Nat.lt_of_succ_lt_succ h) := rfl
theorem p4 {α : Type} (l : List α) (i : Nat) (a : α) : l.toArray.setIfInBounds i a = (l.set i a).toArray := List.setIfInBounds_toArray l i a
theorem p5 {α : Type} {x a : α} {xs : List α} : (x :: xs).set 0 a = a :: xs := rfl
theorem p6 {α : Type} {x a : α} {xs : List α} {n : Nat} : (x :: xs).set (n + 1) a = x :: xs.set n a := rfl
section
variable {P : Program} {ops : Array Oper} {Q : Exit → Act → World → Prop} {md : Region.Mode} {S : World → Prop}
/-- Take number i first; its value v. -/
theorem tkk {oi : Oper} {v : Value} {fuel : Nat} {listed : Array Bool} {a : Act} {w : World} (i : Nat) (hi : ops[i]? = some oi) (hc : (Region.noSelect ops && (Region.free md ops listed i && (Region.ready md ops listed).contains i)) = true)
  (hQ : ∀ c a w, Q (.panic c) (a.put oi.dst v) w → Q (.panic c) a w) (hy : YieldsIf P ops S oi v a) (hS : S w) (h : wpAnyH P md ops Q S fuel (listed.setIfInBounds i true) (a.put oi.dst v) w) : wpAnyH P md ops Q S (fuel + 1) listed a w := by
 simp only [Bool.and_eq_true] at hc
 exact wpAnyH_take hi hc.1 hc.2.1 hc.2.2 hQ hy hS h
end

end Go.Proofs.YtjajigkacccdgaaGreat
