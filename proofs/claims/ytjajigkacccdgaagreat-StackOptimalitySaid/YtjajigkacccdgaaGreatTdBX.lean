/-
clear.Welfare of a balanced trade, whatever the sizes. pylonlaw25.whole: integers as rationals. clear.Welfare of a trade of whole quantities. clear.Welfare over rationals, in every case. Plain law of ClearOptimality: no trade has a greater welfare than the cleared one, and none of equal welfare is lexicographically less. Plain law of StackOptimality: a quantity on the stack costs no more than in any division, and Share is lexicographically the least of the divisions at that cost. From the arguments of a statement to what the walks ask of memory; arguments read as before. No statement of the seat is proved here; no conditions beyond those of each theorem.
-/
import Derived.Test.YtjajigkacccdgaaGreatTdBV
import Derived.Test.YtjajigkacccdgaaGreatTdBQ
import Derived.Test.YtjajigkacccdgaaGreatTdBN
import Derived.Test.YtjajigkacccdgaaGreatTdBS
import Derived.Test.YtjajigkacccdgaaGreatTdBR
import Derived.Test.YtjajigkacccdgaaGreatTdBT
import Derived.Test.YtjajigkacccdgaaGreatRows
import Derived.Test.YtjajigkacccdgaaGreatTdBB
import Derived.WalkKit
import Derived.ProofKit
import Derived.OpenShut
import Derived.Carry
import Derived.WideKeyArgs
import Derived.Deep.Slices
namespace Go.Proofs.YtjajigkacccdgaaGreat
set_option linter.unusedVariables false
set_option linter.unusedSimpArgs false
open Go.RowKit
open Wd

end Go.Proofs.YtjajigkacccdgaaGreat
namespace Go.Proofs.YtjajigkacccdgaaGreat
set_option linter.unusedVariables false
set_option linter.unusedSimpArgs false
open Go.RowKit
open Wd
end Go.Proofs.YtjajigkacccdgaaGreat
namespace Go.Proofs.YtjajigkacccdgaaGreat
set_option linter.unusedVariables false
set_option linter.unusedSimpArgs false
open Go.RowKit
open Wd
/-- A row of canonical rationals as its raw entries. -/
theorem QsAt.raw {w : World} {A : Option Addr} {n : Nat} {ps : List Rat} (h : QsAt w A n ps) : ∃ es : List QE, QsAtR w A n es ∧ ∀ j, j < n → ∃ A1 k c A2 k' c', es[j]?.getD QE0 = (decide ((ps[j]?.getD 0).num < 0), (A1, k, c), false, (A2, k', c')) ∧ WQ w (ps[j]?.getD 0) A1 k c A2 k' c' := by
 by_cases hn : n = 0
 ·subst hn
  exact ⟨[], ⟨rfl, fun h0 => absurd rfl h0⟩, fun j hj => absurd hj (by omega)⟩
 ·obtain ⟨b, o, rfl, hb, hc⟩ := h.2 hn
  have key : ∀ m, m ≤ n → ∃ es : List QE, es.length = m ∧ ∀ j, j < m → (w.cell? ⟨b, o + j * 4, none⟩ = some (.bool (es[j]?.getD QE0).1) ∧ w.cell? ⟨b, o + j * 4 + 1, none⟩ = some (.slice (es[j]?.getD QE0).2.1.1 (es[j]?.getD QE0).2.1.2.1 (es[j]?.getD QE0).2.1.2.2) ∧ w.cell? ⟨b, o + j * 4 + 2, none⟩ = some (.bool (es[j]?.getD QE0).2.2.1) ∧ w.cell? ⟨b, o + j * 4 + 3, none⟩ = some (.slice (es[j]?.getD QE0).2.2.2.1 (es[j]?.getD QE0).2.2.2.2.1 (es[j]?.getD QE0).2.2.2.2.2)) ∧
    ∃ A1 k c A2 k' c', es[j]?.getD QE0 = (decide ((ps[j]?.getD 0).num < 0), (A1, k, c), false, (A2, k', c')) ∧ WQ w (ps[j]?.getD 0) A1 k c A2 k' c' := by
   intro m
   induction m with
   | zero => intro _; exact ⟨[], rfl, fun j hj => absurd hj (by omega)⟩
   | succ m ih =>
    intro hm
    obtain ⟨es, hl, he⟩ := ih (by omega)
    obtain ⟨A1, k, c, A2, k', c', e0, e1, e2, e3, hw⟩ := hc m (by omega)
    refine ⟨es ++ [(decide ((ps[m]?.getD 0).num < 0), (A1, k, c), false, (A2, k', c'))], by simp [hl], fun j hj => ?_⟩
    by_cases hjm : j < m
    ·rw [List.getElem?_append_left (by omega)]
     exact he j hjm
    ·obtain rfl : j = m := by omega
     rw [List.getElem?_append_right (by omega), hl, Nat.sub_self]
     exact ⟨⟨e0, e1, e2, e3⟩, A1, k, c, A2, k', c', rfl, hw⟩
  obtain ⟨es, hl, he⟩ := key n (Nat.le_refl _)
  exact ⟨es, ⟨hl, fun _ => ⟨b, o, rfl, hb, fun j hj => (he j hj).1⟩⟩, fun j hj => (he j hj).2⟩



theorem curve_good {up : Bool} {l : List (Int × Int)} (h : chk up l = 0) : curveE l = 0 := by
 cases up
 ·unfold curveE; rw [if_pos h]
 ·unfold curveE
  split
  ·rfl
  ·exact h
theorem qsum_aT (l : List (Int × Int)) : qsum l = aT l := by
 unfold qsum aT
 induction l with
 | nil => rfl
 | cons s l ih => rw [List.map_cons, List.sum_cons, sumI, ih]



end Go.Proofs.YtjajigkacccdgaaGreat
namespace Go.Proofs.YtjajigkacccdgaaGreat
set_option linter.unusedVariables false
set_option linter.unusedSimpArgs false
open Go.RowKit
open Wd
/-- Whether all quantities may be taken. -/
def goodA (ls : List (List (Int × Int))) (gs : List Rat) : Prop := ∀ i, i < ls.length → 0 ≤ gs[i]?.getD 0 ∧ gs[i]?.getD 0 ≤ ((qsum (ls[i]?.getD []) : Int) : Rat)
def moneyA (ls : List (List (Int × Int))) (gs : List Rat) (k : Nat) : Rat := sumF (fun i => costAt (ls[i]?.getD []) (gs[i]?.getD 0) (ls[i]?.getD []).length) k
def qtyA (gs : List Rat) (k : Nat) : Rat := sumF (fun i => gs[i]?.getD 0) k
theorem qtyA_ls {s : Nat} {gs : List Rat} {n : Nat} (h : ∀ j, j < n → Ls s (gs[j]?.getD 0)) : ∀ k, k ≤ n → Ls (k * (s + 1) + 1) (qtyA gs k)
 | 0, _ => ls_zero _ (by omega)
 | k + 1, hk => by
  have ih := qtyA_ls h k (by omega)
  unfold qtyA at ih ⊢
  rw [sumF]
  exact (ih.add (h k (by omega))).mono (by rw [Nat.succ_mul]; omega)
theorem cost_ls {s : Nat} (hs : 3 ≤ s) {l : List (Int × Int)} {q : Rat} (he : curveE l = 0) (h0 : 0 ≤ q) (hq : Ls s q) : Ls (3 * (s + 6) + 1) (costAt l q l.length) := by
 obtain ⟨hn0, hn3, hok⟩ := curve_ok he
 have h3 := wb_three
 have h3s := wb_mono hs
 exact (costAt_ls (fun k hk => partAt_bd h0 hok hq.1 hq.2 (by omega) (by omega) hk) (bad_price hok) _ (Nat.le_refl _)).mono (by have := Nat.mul_le_mul_right (s + 6) hn3; omega)
theorem moneyA_ls {s : Nat} (hs : 3 ≤ s) {ls : List (List (Int × Int))} {gs : List Rat} {n : Nat} (he : ∀ j, j < n → curveE (ls[j]?.getD []) = 0) (h0 : ∀ j, j < n → 0 ≤ gs[j]?.getD 0) (h : ∀ j, j < n → Ls s (gs[j]?.getD 0)) : ∀ k, k ≤ n → Ls (k * (3 * (s + 6) + 2) + 1) (moneyA ls gs k)
 | 0, _ => ls_zero _ (by omega)
 | k + 1, hk => by
  have ih := moneyA_ls hs he h0 h k (by omega)
  unfold moneyA at ih ⊢
  rw [sumF]
  exact (ih.add (cost_ls hs (he k (by omega)) (h0 k (by omega)) (h k (by omega)))).mono (by rw [Nat.succ_mul k]; omega)












end Go.Proofs.YtjajigkacccdgaaGreat
namespace Go.Proofs.YtjajigkacccdgaaGreat
set_option linter.unusedVariables false
set_option linter.unusedSimpArgs false
open Go.RowKit
open Wd


/-- Whole shares are the shares of a whole quantity. -/
theorem qRest_whole (xs : List Int) (n : Nat) (t : Int) : ∀ j, qRest xs n (t : Rat) j = ((shRest xs n t j : Int) : Rat)
 | 0 => rfl
 | j + 1 => by rw [qRest, shRest, qRest_whole xs n t j, lessQ_whole, Rat.intCast_sub]



theorem qAll_neg (lv : List St.Lv) (n : Nat) (z : Rat) : ∀ k, qAll (lv.map negV) n z k = qAll lv n z k
 | 0 => rfl
 | k + 1 => by
  have e : ∀ i, restAt (lvQ (lv.map negV)) z i = restAt (lvQ lv) z i := fun i => by
   induction i with
   | zero => rfl
   | succ i ih => rw [restAt, restAt, ih, (negV_get lv i).1]
  have e2 : partAt (lvQ (lv.map negV)) z k = partAt (lvQ lv) z k := by rw [partAt, partAt, e, (negV_get lv k).1]
  have e3 : ((lv.map negV)[k]?.getD Lv0).2.2 = (lv[k]?.getD Lv0).2.2 := by
   rw [List.getElem?_map]
   cases lv[k]? <;> rfl
  rw [qAll, qAll, qAll_neg lv n z k, e2, e3]
theorem sumF_cast {α : Type} (f : α → Int) (d : α) (l : List α) : ((sumI (l.map f) : Int) : Rat) = sumF (fun k => ((f (l[k]?.getD d) : Int) : Rat)) l.length := by
 rw [← sumI_sumF f d l l.length (Nat.le_refl _), List.take_length]

theorem restAt_negL (l : List (Int × Int)) (z : Rat) : ∀ k, restAt (negL l) z k = restAt l z k
 | 0 => rfl
 | k + 1 => by rw [restAt, restAt, restAt_negL l z k, (negL_get1 l k).1]
theorem costAt_negL (l : List (Int × Int)) (z : Rat) : ∀ k, costAt (negL l) z k = -costAt l z k
 | 0 => by simp only [costAt]; grind
 | k + 1 => by
  have e2 : partAt (negL l) z k = partAt l z k := by rw [partAt, partAt, restAt_negL, (negL_get1 l k).1]
  rw [costAt, costAt, costAt_negL l z k, e2, (negL_get1 l k).2, Rat.intCast_neg]
  grind
theorem negL_aT (l : List (Int × Int)) : aT (negL l) = aT l := by
 unfold aT negL
 rw [List.map_map]
 rfl
theorem negL_len (l : List (Int × Int)) : (negL l).length = l.length := by simp [negL]
theorem sumF_mul (p : Rat) (f : Nat → Rat) : ∀ n, sumF (fun i => p * f i) n = p * sumF f n
 | 0 => by simp only [sumF]; grind
 | n + 1 => by rw [sumF, sumF_mul p f n, sumF]; grind
theorem sumF_sub (f g : Nat → Rat) : ∀ n, sumF (fun i => f i - g i) n = sumF f n - sumF g n
 | 0 => by simp only [sumF]; grind
 | n + 1 => by rw [sumF, sumF_sub f g n, sumF, sumF]; grind
/-- The cost of a division against its price: at least that, and that alone between the bounds. -/
theorem side_law {ls : List (List (Int × Int))} (p : Int) (hs : ∀ l ∈ ls, (l.map (·.2)).Pairwise (· < ·)) (hq : ∀ l ∈ ls, ∀ s ∈ l, 0 < s.1) {g : Nat → Rat} (h0 : ∀ i, i < ls.length → 0 ≤ g i ∧ g i ≤ ((aT (ls[i]?.getD []) : Int) : Rat)) :
  (p : Rat) * sumF g ls.length - ((gS p ls : Int) : Rat) ≤ sumF (fun i => czQ (ls[i]?.getD []) (g i)) ls.length ∧
  (sumF (fun i => czQ (ls[i]?.getD []) (g i)) ls.length ≤ (p : Rat) * sumF g ls.length - ((gS p ls : Int) : Rat) → ∀ i, i < ls.length → ((aL p (ls[i]?.getD []) : Int) : Rat) ≤ g i ∧ g i ≤ ((aM p (ls[i]?.getD []) : Int) : Rat)) := by
 have e : (p : Rat) * sumF g ls.length - ((gS p ls : Int) : Rat) = sumF (fun i => (p : Rat) * g i - ((aG p (ls[i]?.getD []) : Int) : Rat)) ls.length := by
  unfold gS
  rw [sumF_cast (aG p) [] ls, sumF_sub (fun i => (p : Rat) * g i) (fun k => ((aG p (ls[k]?.getD []) : Int) : Rat)), sumF_mul]
 have law := fun i (hi : i < ls.length) => czQ_law p (hs _ (getD_mem (d := []) hi)) (hq _ (getD_mem (d := []) hi)) (h0 i hi).1 (h0 i hi).2
 rw [e]
 refine ⟨sumF_le fun i hi => (law i hi).1, fun hle i hi => ?_⟩
 have := sumF_all (fun i hi => (law i hi).1) hle i hi
 exact (law i hi).2.1 this.symm
theorem chk_pos {up : Bool} {l : List (Int × Int)} (h : chk up l = 0) : ∀ s ∈ l, 0 < s.1 := fun s hs => by
 have := (chk_ok h).2.2.2 s hs
 unfold Bad at this
 omega
end Go.Proofs.YtjajigkacccdgaaGreat
namespace Go.Proofs.YtjajigkacccdgaaGreat
set_option linter.unusedVariables false
set_option linter.unusedSimpArgs false
open Go.RowKit
open Wd
theorem aT_lv {up : Bool} {n : Nat} {ls : List (List (Int × Int))} {lv : List St.Lv} (h : St.IsLv up n (St.tri 0 ls) lv) : aT (lvQ lv) = sumI (ls.map aT) := by
 have := St.sumG_lv (fun _ => 1) h
 have e1 : aT (lvQ lv) = sumI (lv.map fun x => x.2.1 * 1) := by
  unfold aT lvQ
  rw [List.map_map]
  congr 1
  exact List.map_congr_left fun x _ => by simp
 have e2 : sumI (ls.map aT) = sumI (ls.map fun l => sumI (l.map fun s => s.1 * 1)) := by
  congr 1
  exact List.map_congr_left fun l _ => by
   unfold aT
   congr 1
   exact List.map_congr_left fun s _ => by simp
 rw [e1, e2]
 exact this
/-- The whole law for offers, or for what has been negated. -/
theorem opt_core {up : Bool} {ls : List (List (Int × Int))} {lv : List St.Lv} (h : St.IsLv true ls.length (St.tri 0 ls) lv) (hv : VL up ls.length lv) (hs : ∀ l ∈ ls, (l.map (·.2)).Pairwise (· < ·)) (hq : ∀ l ∈ ls, ∀ s ∈ l, 0 < s.1) (hne : ls ≠ [] → lv ≠ [])
  {ys : Nat → Rat} {q : Rat} (hy : ∀ i, i < ls.length → 0 ≤ ys i ∧ ys i ≤ ((aT (ls[i]?.getD []) : Int) : Rat)) (h1 : sumF ys ls.length = q) :
  (0 ≤ q ∧ q ≤ ((aT (lvQ lv) : Int) : Rat)) ∧ (∀ i, i < ls.length → 0 ≤ (qAll lv ls.length q lv.length)[i]?.getD 0 ∧ (qAll lv ls.length q lv.length)[i]?.getD 0 ≤ ((aT (ls[i]?.getD []) : Int) : Rat)) ∧ sumF (fun i => (qAll lv ls.length q lv.length)[i]?.getD 0) ls.length = q ∧
  sumF (fun i => czQ (ls[i]?.getD []) ((qAll lv ls.length q lv.length)[i]?.getD 0)) ls.length = czQ (lvQ lv) q ∧ czQ (lvQ lv) q ≤ sumF (fun i => czQ (ls[i]?.getD []) (ys i)) ls.length ∧
  (sumF (fun i => czQ (ls[i]?.getD []) (ys i)) ls.length = czQ (lvQ lv) q → ∀ i, i < ls.length → (∀ j, j < i → (qAll lv ls.length q lv.length)[j]?.getD 0 = ys j) → (qAll lv ls.length q lv.length)[i]?.getD 0 ≠ ys i → (qAll lv ls.length q lv.length)[i]?.getD 0 < ys i) := by
 have hq0 := (lvQ_pos hv).1
 have hqp : ∀ s ∈ lvQ lv, 0 < s.1 := fun s hs => (hv.okQ s hs).1
 have hss := lvQ_sorted h
 have z0 : ((0 : Int) : Rat) = 0 := rfl
 have h0 : 0 ≤ q := by
  rw [← h1]
  have : sumF (fun _ => 0) ls.length ≤ sumF ys ls.length := sumF_le fun i hi => (hy i hi).1
  have e : ∀ n, sumF (fun _ => (0 : Rat)) n = 0 := fun n => by
   induction n with
   | zero => rfl
   | succ n ih => rw [sumF, ih]; grind
  rw [e] at this
  exact this
 have hT : q ≤ ((aT (lvQ lv) : Int) : Rat) := by
  rw [aT_lv h, sumF_cast aT [] ls, ← h1]
  exact sumF_le fun i hi => (hy i hi).2
 by_cases hl : ls = []
 ·subst hl
  have hlv : lv = [] := by
   cases lv with
   | nil => rfl
   | cons x r =>
    have := (h.2.1 x.1).1 (by simp)
    simp [St.tri] at this
  subst hlv
  have e : q = 0 := by rw [← h1]; rfl
  subst e
  refine ⟨⟨h0, hT⟩, fun i hi => absurd hi (by simp), rfl, rfl, ?_, fun _ i hi => absurd hi (by simp)⟩
  exact Rat.le_refl
 ·obtain ⟨t, ht, p1, p2⟩ := price_at hss hqp (by
   have := hne hl
   intro e
   apply this
   have : (lvQ lv).length = 0 := by rw [e]; rfl
   rw [lvQ_len] at this
   exact List.eq_nil_of_length_eq_zero this) h0 hT
  generalize t.2 = p at *
  have lf := qAll_lf (p := p) h hv p1 p2
  have law := czQ_law p hss hqp h0 hT
  have eC : czQ (lvQ lv) q = (p : Rat) * q - ((gS p ls : Int) : Rat) := by
   rw [law.2.2 ⟨p1, p2⟩, aG_lv h]
  have bd : ∀ i, i < ls.length → 0 ≤ (qAll lv ls.length q lv.length)[i]?.getD 0 ∧ (qAll lv ls.length q lv.length)[i]?.getD 0 ≤ ((aT (ls[i]?.getD []) : Int) : Rat) := fun i hi => by
   have hb := aL_le_aM p fun s hs => Int.le_of_lt (hq _ (getD_mem (d := []) hi) s hs)
   have c1 : (0 : Rat) ≤ ((aL p (ls[i]?.getD []) : Int) : Rat) := by exact_mod_cast hb.1
   have c2 : ((aM p (ls[i]?.getD []) : Int) : Rat) ≤ ((aT (ls[i]?.getD []) : Int) : Rat) := by exact_mod_cast hb.2.2
   have d1 := lf.ge i hi
   have d2 := lf.le i hi
   constructor <;> grind
  have sl := side_law p hs hq hy
  rw [h1] at sl
  have e : (p : Rat) * q - ((gS p ls : Int) : Rat) = sumF (fun i => (p : Rat) * (qAll lv ls.length q lv.length)[i]?.getD 0 - ((aG p (ls[i]?.getD []) : Int) : Rat)) ls.length := by
   unfold gS
   rw [sumF_cast (aG p) [] ls, sumF_sub (fun i => (p : Rat) * (qAll lv ls.length q lv.length)[i]?.getD 0) (fun k => ((aG p (ls[k]?.getD []) : Int) : Rat)), sumF_mul, lf.sum]
  refine ⟨⟨h0, hT⟩, bd, lf.sum, ?_, by rw [eC]; exact sl.1, fun heq i hi he hn => ?_⟩
  ·rw [eC, e]
   exact sumF_eq fun i hi => (czQ_law p (hs _ (getD_mem (d := []) hi)) (hq _ (getD_mem (d := []) hi)) (bd i hi).1 (bd i hi).2).2.2 ⟨lf.ge i hi, lf.le i hi⟩
  ·have b := sl.2 (by rw [heq, eC]; exact Rat.le_refl)
   exact lf.least (fun i hi => (b i hi).1) (fun i hi => (b i hi).2) (by rw [h1]; exact Rat.le_refl) hi he hn
theorem czQ_neg (l : List (Int × Int)) (z : Rat) : czQ (negL l) z = -czQ l z := by
 rw [← costAt_cz, ← costAt_cz, negL_len, costAt_negL]
theorem lvQ_neg (lv : List St.Lv) : lvQ (lv.map negV) = negL (lvQ lv) := by
 unfold lvQ negL
 rw [List.map_map, List.map_map]
 rfl
theorem sumF_neg (f : Nat → Rat) : ∀ n, sumF (fun i => -f i) n = -sumF f n
 | 0 => by simp only [sumF]; grind
 | n + 1 => by rw [sumF, sumF_neg f n, sumF]; grind
/-- What the division by the stack costs, against another's cost: no more for offers, no less for bids. -/
def noWorse (up : Bool) (a b : Rat) : Prop := if up then a ≤ b else b ≤ a
theorem stack_opt {up : Bool} {ls : List (List (Int × Int))} {lv : List St.Lv} (h : St.IsLv up ls.length (St.tri 0 ls) lv) (hv : VL up ls.length lv) (hk : ∀ l ∈ ls, chk up l = 0)
  {ys : Nat → Rat} {q : Rat} (hy : ∀ i, i < ls.length → 0 ≤ ys i ∧ ys i ≤ ((aT (ls[i]?.getD []) : Int) : Rat)) (h1 : sumF ys ls.length = q) :
  (0 ≤ q ∧ q ≤ ((aT (lvQ lv) : Int) : Rat)) ∧ (∀ i, i < ls.length → 0 ≤ (qAll lv ls.length q lv.length)[i]?.getD 0 ∧ (qAll lv ls.length q lv.length)[i]?.getD 0 ≤ ((aT (ls[i]?.getD []) : Int) : Rat)) ∧ sumF (fun i => (qAll lv ls.length q lv.length)[i]?.getD 0) ls.length = q ∧
  sumF (fun i => czQ (ls[i]?.getD []) ((qAll lv ls.length q lv.length)[i]?.getD 0)) ls.length = czQ (lvQ lv) q ∧ noWorse up (czQ (lvQ lv) q) (sumF (fun i => czQ (ls[i]?.getD []) (ys i)) ls.length) ∧
  (czQ (lvQ lv) q = sumF (fun i => czQ (ls[i]?.getD []) (ys i)) ls.length → ∀ i, i < ls.length → (∀ j, j < i → (qAll lv ls.length q lv.length)[j]?.getD 0 = ys j) → (qAll lv ls.length q lv.length)[i]?.getD 0 ≠ ys i → (qAll lv ls.length q lv.length)[i]?.getD 0 < ys i) := by
 have hne : ls ≠ [] → lv ≠ [] := fun h0 e => by
  subst e
  cases ls with
  | nil => exact h0 rfl
  | cons l r =>
   have hl := hk l (List.mem_cons_self ..)
   have hlen := (chk_ok hl).1
   cases l with
   | nil => simp at hlen
   | cons s l =>
    have := (h.2.1 s.2).2 ⟨(0, s.1, s.2), by simp [St.tri], rfl⟩
    simp at this
 cases up
 ·have n1 := St.IsLv.neg h
  have e := negs_len ls
  rw [← e] at n1
  have hv' := hv.neg
  rw [← e] at hv'
  have C := opt_core (ys := ys) (q := q) n1 hv' (fun l hl => by
   obtain ⟨l', hl', rfl⟩ := List.mem_map.1 hl
   exact chk_dn (hk l' hl')) (fun l hl s hs => by
   obtain ⟨l', hl', rfl⟩ := List.mem_map.1 hl
   obtain ⟨s', hs', rfl⟩ := List.mem_map.1 hs
   exact chk_pos (hk l' hl') s' hs') (fun h0 e => by
    have h2 : lv = [] := by simpa using e
    exact hne (fun e2 => h0 (by rw [e2]; rfl)) h2) (fun i hi => by rw [negs_get, negL_aT]; exact hy i (by omega)) (by rw [e]; exact h1)
  rw [e, List.length_map, qAll_neg, lvQ_neg, negL_aT, czQ_neg] at C
  have eN : ∀ x : Nat → Rat, sumF (fun i => czQ ((negs ls)[i]?.getD []) (x i)) ls.length = -sumF (fun i => czQ (ls[i]?.getD []) (x i)) ls.length := fun x => by
   rw [← sumF_neg]
   exact sumF_eq fun i hi => by rw [negs_get, czQ_neg]
  rw [eN, eN] at C
  obtain ⟨c1, c2, c3, c4, c5, c6⟩ := C
  refine ⟨c1, fun i hi => ?_, c3, by grind, ?_, fun heq => c6 (by rw [heq])⟩
  ·have := c2 i hi
   rw [negs_get, negL_aT] at this
   exact this
  ·show _ ≤ _
   grind
 ·obtain ⟨c1, c2, c3, c4, c5, c6⟩ := opt_core h hv (fun l hl => chk_up (hk l hl)) (fun l hl => chk_pos (hk l hl)) hne hy h1
  exact ⟨c1, c2, c3, c4, c5, fun heq => c6 heq.symm⟩

end Go.Proofs.YtjajigkacccdgaaGreat

namespace Go.Proofs.YtjajigkacccdgaaGreat
set_option linter.unusedVariables false
set_option linter.unusedSimpArgs false
open Go.ChangeShapes Go.WideShapes Go.ChangeAt Go.RowKit Go.Deep
open Wd

theorem own : ownKnob Tryz.prog.godebug = none := by kernel_rfl
theorem laidOut : laidOutB Tryz.prog = true := by kernel_rfl
theorem cells_int64 : Tryz.prog.cellsOf 2 = 1 := by kernel_rfl


theorem cells_steps : Tryz.prog.cellsOf 29 = 1 := by kernel_rfl
theorem cells_step : Tryz.prog.cellsOf 107 = 2 := by kernel_rfl

theorem fits_of {z : Int} (h : (Lit.int .i64 z).wf = true) : Fits z := by
 simp [Lit.wf, IntKind.min, IntKind.max, IntKind.signed, IntKind.bits] at h
 unfold Fits
 omega
theorem drop_one {α : Type} {l : List α} {o : Nat} {v : α} (h : (l.drop o).take 1 = [v]) : l[o]? = some v := by
 have h0 : ((l.drop o).take 1)[0]? = some v := by rw [h]; rfl
 simpa using h0

theorem addr_plus (b o k : Nat) : (⟨b, o, none⟩ : Addr).add k = ⟨b, o + k, none⟩ := by
 unfold Addr.add
 split
 ·rename_i h; rw [h]; rfl
 ·rfl

section
variable {H : Type} {enc : TypeId × Value → H} {W : World}

theorem plain_addr {a : Addr} {v : Value} (h : W.cell? a = some v) : a = ⟨a.block, a.off, none⟩ ∧ a.block < W.heap.size := by
 have h1 := World.cell?_spot h
 have h2 := World.block_lt_of_cell? W a h
 obtain ⟨b, o, s⟩ := a
 simp only at h1 h2 ⊢
 exact ⟨by rw [h1], h2⟩

/-- A field of one cell that is an integer. -/
theorem field_int {cs : List Value} {xs : List (DataW H × List MemPlace)} {n : Nat} {t : TypeId} {o j : Nat} (hu : Tryz.prog.underlying t = some (.int .i64)) (hc : Tryz.prog.cellsOf t = 1) (hj : j < xs.length)
  (h : DataW.trod enc Tryz.prog W 0 (fun _ => true) true n t ((cs.drop o).take (Tryz.prog.cellsOf t)) = xs[j]?) : ∃ z, cs[o]? = some (.int .i64 z) ∧ Fits z := by
 rw [hc, List.getElem?_eq_getElem hj] at h
 obtain ⟨z, hz, _, hw⟩ := DataW.trod_int hu h
 exact ⟨z, drop_one hz, fits_of hw⟩

theorem st_of {fuel : Nat} {cs : List Value} {x : DataW H × List MemPlace} (h : DataW.trod enc Tryz.prog W 0 (fun _ => true) true fuel 29 cs = some x) : ∃ A n c l, cs = [.slice A n c] ∧ StAt W A n l := by
 rcases open_slice Tryz.underlying29 h with ⟨rfl, _⟩ | ⟨a, len, cap, m, n, D, Pl, rfl, _, hl, _, hmm, _, hi⟩
 ·exact ⟨none, 0, 0, [], rfl, rfl, by simp, fun h => absurd rfl h⟩
 ·simp only [if_true] at hmm
  have each : ∀ i, i < len → ∃ s : Int × Int, (Fits s.1 ∧ Fits s.2) ∧ W.cell? (a.add (i * 2)) = some (.int .i64 s.1) ∧ W.cell? (a.add (i * 2 + 1)) = some (.int .i64 s.2) := by
   intro i hil
   obtain ⟨cs', hc, ht⟩ := hi i (by omega)
   rw [cells_step] at hc
   obtain ⟨xs, k, _, _, _, hxl, hf⟩ := DataW.trod_struct Tryz.underlying107 ht
   have hxl2 : xs.length = 2 := hxl
   obtain ⟨_, hcl, hcell⟩ := World.cells?_some hc
   obtain ⟨q, hq, fq⟩ := field_int (t := 2) (o := 0) (j := 0) Tryz.underlying2 cells_int64 (by omega) (hf 0 _ rfl)
   obtain ⟨p, hp, fp⟩ := field_int (t := 2) (o := 1) (j := 1) Tryz.underlying2 cells_int64 (by omega) (hf 1 _ rfl)
   refine ⟨(q, p), ⟨fq, fp⟩, ?_, ?_⟩
   ·have := hcell 0 (by omega); rw [hq] at this; exact this
   ·have := hcell 1 (by omega); rw [hp] at this; rw [← add_add]; exact this
  obtain ⟨F, hF⟩ := choose_lt each
  refine ⟨some a, len, cap, (List.range len).map F, rfl, by simp, ?_, fun hn => ?_⟩
  ·intro s hs
   obtain ⟨i, hi', rfl⟩ := List.mem_map.1 hs
   exact (hF i (List.mem_range.1 hi')).1
  ·have h0 := (hF 0 (by omega)).2.1
   obtain ⟨e, hb⟩ := plain_addr h0
   have hsp : a.spot = none := by have := congrArg Addr.spot e; simpa [Addr.add] using this
   have ea : a = ⟨a.block, a.off, none⟩ := by obtain ⟨b, o, s⟩ := a; simp only at hsp ⊢; rw [hsp]
   refine ⟨a.block, a.off, by rw [← ea], by simpa [Addr.add] using hb, fun j hj => ?_⟩
   have e1 : ((List.range len).map F)[j]?.getD (0, 0) = F j := by simp [hj]
   obtain ⟨_, c1, c2⟩ := hF j hj
   rw [ea, addr_plus] at c1 c2
   rw [e1]
   exact ⟨c1, c2⟩

theorem css_of {fuel : Nat} {cs : List Value} {x : DataW H × List MemPlace} (h : DataW.trod enc Tryz.prog W 0 (fun _ => true) true fuel 22 cs = some x) : ∃ A n c ls, cs = [.slice A n c] ∧ CsAt W A n ls := by
 rcases open_slice1 Tryz.underlying22 cells_steps h with ⟨rfl, _⟩ | ⟨a, len, cap, m, n, V, D, Pl, rfl, _, hl, _, hmm, _, hi⟩
 ·exact ⟨none, 0, 0, [], rfl, rfl, fun h => absurd rfl h⟩
 ·simp only [if_true] at hmm
  have each : ∀ i, i < len → ∃ l : List (Int × Int), ∃ A' n' c', W.cell? (a.add i) = some (.slice A' n' c') ∧ StAt W A' n' l := by
   intro i hil
   obtain ⟨hc, ht⟩ := hi i (by omega)
   obtain ⟨A', n', c', l, hl', hst⟩ := st_of ht
   exact ⟨l, A', n', c', by rw [hc]; simpa using hl', hst⟩
  obtain ⟨F, hF⟩ := choose_lt each
  refine ⟨some a, len, cap, (List.range len).map F, rfl, by simp, fun hn => ?_⟩
  obtain ⟨_, _, _, h0, _⟩ := hF 0 (by omega)
  obtain ⟨e, hb⟩ := plain_addr h0
  have hsp : a.spot = none := by have := congrArg Addr.spot e; simpa [Addr.add] using this
  have ea : a = ⟨a.block, a.off, none⟩ := by obtain ⟨b, o, s⟩ := a; simp only at hsp ⊢; rw [hsp]
  refine ⟨a.block, a.off, by rw [← ea], by simpa [Addr.add] using hb, fun j hj => ?_⟩
  have e1 : ((List.range len).map F)[j]?.getD [] = F j := by simp [hj]
  obtain ⟨A', n', c', c1, hs⟩ := hF j hj
  rw [ea, addr_plus] at c1
  rw [e1]
  exact ⟨A', n', c', c1, hs⟩

end
section
variable {H : Type} {enc : TypeId × Value → H} {P : Program} {W : World}
/-- Arguments read as before where nothing old has turned. -/
theorem args_stay (hlo : laidOutB P = true) {W' : World} (hb : Below W.heap.size W W') (sp : Nat → Bool) : ∀ {ts : List TypeId} {vs : List Value} {ds : List (DataW H)} {ps : List MemPlace},
  (∀ t ∈ ts, P.readableRec t = true ∧ t < P.types.size) → DataW.TrodAll enc P W 0 (fun _ => true) true ts vs ds ps → (∀ p ∈ ps, p.block < W.heap.size) → (∀ p ∈ ps, sp p.block = true) →
  DataW.TrodAll enc P W' 0 sp true ts vs ds ps
 | [], _, _, _, _, h, _, _ => by obtain ⟨rfl, rfl, rfl⟩ := trodAll_nil h; exact trodAll_mk0
 | t :: ts, _, _, _, hr, h, hlt, hs => by
  obtain ⟨v, vs', d, ds', p, q, rfl, rfl, rfl, h1, h2⟩ := trodAll_cons h
  have hr1 := hr t (List.mem_cons_self ..)
  exact trodAll_cons_mk (WideElems.Trod_stays hlo hr1.1 hr1.2 h1 (fun x hx => hb.same (hlt x (List.mem_append_left _ hx))) (fun x hx => hs x (List.mem_append_left _ hx)))
   (args_stay hlo hb sp (fun y hy => hr y (List.mem_cons_of_mem _ hy)) h2 (fun x hx => hlt x (List.mem_append_right _ hx)) (fun x hx => hs x (List.mem_append_right _ hx)))

/-- The statement's post: true, and every argument reads as before. -/
theorem post_true (hlo : laidOutB P = true) {f : Func} {s : ChangeSpec} {W' : World} {args : Array Value} {ds : List (DataW H)} {before : List MemPlace} {tb : TypeId} (hbool : P.underlying tb = some .bool) (hv : s.vars = []) (hr1 : f.resultTypes = #[tb])
  (hr : ∀ t ∈ f.params.toList, P.readableRec t = true ∧ t < P.types.size)
  (hW : DataW.Whole enc P f.params.toList s.vars false W args.toList ds [] before) (hres : (s.fn H (ds ++ [])).results = [.lit (.bool true)]) (hargs : (s.fn H (ds ++ [])).args = ds) (hvars : (s.fn H (ds ++ [])).vars = []) (hb : Below W.heap.size W W') :
  s.post enc P f false true false false W args (.bool true) W' := by
 have hW' := hW
 obtain ⟨p, q, hA, hV, rfl, hz, hn⟩ := hW
 rw [hv] at hV
 obtain ⟨_, rfl⟩ := trodVars_none hV
 have hlt : ∀ x ∈ p ++ [], x.block < W.heap.size := fun x hx => hW'.lt x hx
 have hlt' : ∀ x ∈ p, x.block < W.heap.size := fun x hx => hlt x (by simpa using hx)
 have hold : ∀ x ∈ p, (fun b => decide (b < W.heap.size)) x.block = true := fun x hx => by simpa using hlt' x hx
 have hRes : ∀ (b : Nat) (sp : Nat → Bool) (hd : Bool), DataW.TrodAll enc P W' b sp hd f.resultTypes.toList ((Value.bool true).resultList f.resultTypes.size) (s.fn H (ds ++ [])).results [] := fun b sp hd => by
  rw [hres, hr1]
  exact trodAll_cons_mk (shut_bool hbool true) trodAll_mk0
 have hArg : ∀ sp : Nat → Bool, (∀ x ∈ p, sp x.block = true) → DataW.TrodAll enc P W' 0 sp true f.params.toList args.toList (s.fn H (ds ++ [])).args p := fun sp hsp => by
  rw [hargs]
  exact args_stay hlo hb sp hr hA hlt' hsp
 have hVar : ∀ sp : Nat → Bool, DataW.TrodVars enc P W' sp s.vars (s.fn H (ds ++ [])).vars [] := fun sp => by
  rw [hv, hvars]; rfl
 refine ⟨ds, [], p ++ [], [], p, [], hW', hRes _ _ _, hArg _ (by simpa using hold), hVar _, World.keptBut_mono (fun x hx => ⟨hx, ?_⟩) (hb.frame (· ∈ p ++ [])), fun _ => ?_⟩
 ·exact Or.inr (by simpa using hx)
 ·refine ⟨ok_one hr1 rfl (okWide_bool_mk hbool _), _, _, ([] ++ p) ++ [], ⟨[] ++ p, [], trodAll_append (hArg _ (fun _ _ => rfl)) (hRes _ _ _), hVar _, rfl, ?_, ?_⟩, ?_⟩
  ·intro b off hp
   have hin : MemPlace.cell b off ∈ p ++ [] := by simpa using hp
   rw [hb.frozen (hlt _ hin)]
   exact hz b off hin
  ·intro ha; cases ha
  ·intro x hx _
   simpa using hx
end

theorem rowed {P : Program} {ps : Array TypeId} (h : (ps.toList.all fun t => P.readableRec t && decide (t < P.types.size)) = true) : ∀ t ∈ ps.toList, P.readableRec t = true ∧ t < P.types.size := by
 intro t ht
 have := List.all_eq_true.1 h t ht
 simpa using this

end Go.Proofs.YtjajigkacccdgaaGreat