/-
Plain law of StackAggregation; the argument of a statement that is a rational. No statement of the seat is proved here; no conditions beyond those of each theorem.
-/
import Derived.Test.YtnjpojpfiijlfaaGreatZ2
namespace Go.Proofs.YtnjpojpfiijlfaaGreat
set_option linter.unusedVariables false
set_option linter.unusedSimpArgs false
open Go.RowKit
open Wd

namespace St
theorem sum_pricesF (f : Int → Bool) : ∀ {T : List Tr} {ps : List Int}, ps.Nodup → (∀ t ∈ T, t.2.2 ∈ ps) → sumI (ps.map fun p => if f p then qty T p else 0) = sumI (T.map fun t => if f t.2.2 then t.2.1 else 0)
  | [], ps, _, _ => by
    refine (sumI_zero fun y hy => ?_)
    obtain ⟨x, _, rfl⟩ := List.mem_map.1 hy
    split <;> rfl
  | t :: T, ps, hn, h => by
    have ih := sum_pricesF f hn fun s hs => h s (List.mem_cons_of_mem _ hs)
    have e : (ps.map fun p => if f p then qty (t :: T) p else 0) = ps.map fun p => (if t.2.2 = p then (if f t.2.2 then t.2.1 else 0) else 0) + (if f p then qty T p else 0) := by
      refine List.map_congr_left fun p _ => ?_
      rw [qty]
      by_cases hp : t.2.2 = p
      · subst hp
        cases f t.2.2 <;> simp
      · rw [if_neg hp, if_neg hp]
        split <;> omega
    rw [e, sumI_map_add (fun p => if t.2.2 = p then (if f t.2.2 then t.2.1 else 0) else 0) (fun p => if f p then qty T p else 0), ih]
    have := sumI_one (fun p : Int => p) (if f t.2.2 then t.2.1 else 0) (l := ps) (p := t.2.2) (by simpa using hn) (by simpa using h t (List.mem_cons_self ..))
    rw [this, List.map_cons, sumI]
theorem sumF_tri (f : Int → Bool) : ∀ (ls : List (List (Int × Int))) (k : Nat), sumI ((tri k ls).map fun t => if f t.2.2 then t.2.1 else 0) = sumI (ls.map fun l => sumI (l.map fun s => if f s.2 then s.1 else 0))
  | [], _ => rfl
  | l :: ls, k => by
    rw [tri, List.map_append, sumI_app, sumF_tri f ls (k + 1), List.map_cons, sumI, List.map_map]
    rfl
theorem sumF_lv (f : Int → Bool) {up : Bool} {n : Nat} {ls : List (List (Int × Int))} {lv : List Lv} (h : IsLv up n (tri 0 ls) lv) : sumI (lv.map fun x => if f x.1 then x.2.1 else 0) = sumI (ls.map fun l => sumI (l.map fun s => if f s.2 then s.1 else 0)) := by
  have e : (lv.map fun x => if f x.1 then x.2.1 else 0) = (lv.map (·.1)).map fun p => if f p then qty (tri 0 ls) p else 0 := by
    rw [List.map_map]
    refine List.map_congr_left fun x hx => ?_
    simp only [Function.comp]
    rw [(h.2.2 x hx).1]
  rw [e, sum_pricesF f h.nodup fun t ht => (h.2.1 t.2.2).2 ⟨t, ht, rfl⟩, sumF_tri]
end St
/-- What the levels hold on one side of a price, without and with the level at it. -/
def lvL (side : Int) (q : Rat) (lv : List St.Lv) : Int := sumI (lv.map fun x => if cmpQ (x.1 : Rat) q = side then x.2.1 else 0)
def lvM (side : Int) (q : Rat) (lv : List St.Lv) : Int := sumI (lv.map fun x => if cmpQ (x.1 : Rat) q = side ∨ cmpQ (x.1 : Rat) q = 0 then x.2.1 else 0)
theorem agg_lv {side : Int} {q : Rat} {up : Bool} {n : Nat} {ls : List (List (Int × Int))} {lv : List St.Lv} (h : St.IsLv up n (St.tri 0 ls) lv) : lvL side q lv = sumI (ls.map (wlL side q)) ∧ lvM side q lv = sumI (ls.map (wlM side q)) := by
  have h1 := St.sumF_lv (fun p => decide (cmpQ (p : Rat) q = side)) h
  have h2 := St.sumF_lv (fun p => decide (cmpQ (p : Rat) q = side ∨ cmpQ (p : Rat) q = 0)) h
  simp only [decide_eq_true_eq] at h1 h2
  exact ⟨h1, h2⟩
theorem lvL_snoc {side : Int} {q : Rat} {lv : List St.Lv} {k : Nat} (hk : k < lv.length) : lvL side q (lv.take (k + 1)) = lvL side q (lv.take k) + if cmpQ (((lv[k]?.getD Lv0).1 : Int) : Rat) q = side then (lv[k]?.getD Lv0).2.1 else 0 := by
  have e : lv.take (k + 1) = lv.take k ++ [lv[k]?.getD Lv0] := by rw [List.take_add_one, List.getElem?_eq_getElem hk]; rfl
  unfold lvL
  rw [e, List.map_append]
  exact sumI_snoc _ _
theorem lvM_snoc {side : Int} {q : Rat} {lv : List St.Lv} {k : Nat} (hk : k < lv.length) : lvM side q (lv.take (k + 1)) = lvM side q (lv.take k) + if cmpQ (((lv[k]?.getD Lv0).1 : Int) : Rat) q = side ∨ cmpQ (((lv[k]?.getD Lv0).1 : Int) : Rat) q = 0 then (lv[k]?.getD Lv0).2.1 else 0 := by
  have e : lv.take (k + 1) = lv.take k ++ [lv[k]?.getD Lv0] := by rw [List.take_add_one, List.getElem?_eq_getElem hk]; rfl
  unfold lvM
  rw [e, List.map_append]
  exact sumI_snoc _ _
theorem lv_bd : ∀ (lv : List St.Lv) (side : Int) (q : Rat), (∀ x ∈ lv, 0 < x.2.1 ∧ x.2.1 ≤ 16000000) → (0 ≤ lvL side q lv ∧ lvL side q lv ≤ 16000000 * (lv.length : Int)) ∧ (0 ≤ lvM side q lv ∧ lvM side q lv ≤ 16000000 * (lv.length : Int))
  | [], _, _, _ => by simp [lvL, lvM, sumI]
  | x :: lv, side, q, h => by
    have h1 := h x (List.mem_cons_self ..)
    have h2 := lv_bd lv side q fun y hy => h y (List.mem_cons_of_mem _ hy)
    unfold lvL lvM at *
    rw [List.map_cons, List.map_cons, sumI, sumI, List.length_cons]
    constructor <;> split <;> omega
theorem sumw_snoc (f : List (Int × Int) → Int) {ls : List (List (Int × Int))} {k : Nat} (hk : k < ls.length) : sumI ((ls.take (k + 1)).map f) = sumI ((ls.take k).map f) + f (ls[k]?.getD []) := by
  have e : ls.take (k + 1) = ls.take k ++ [ls[k]?.getD []] := by rw [List.take_add_one, List.getElem?_eq_getElem hk]; rfl
  rw [e, List.map_append]
  exact sumI_snoc _ _
theorem sumw_bd (f : List (Int × Int) → Int) : ∀ (ls : List (List (Int × Int))), (∀ l ∈ ls, 0 ≤ f l ∧ f l ≤ 3000000) → 0 ≤ sumI (ls.map f) ∧ sumI (ls.map f) ≤ 3000000 * (ls.length : Int)
  | [], _ => by simp [sumI]
  | l :: ls, h => by
    have h1 := h l (List.mem_cons_self ..)
    have h2 := sumw_bd f ls fun y hy => h y (List.mem_cons_of_mem _ hy)
    rw [List.map_cons, sumI, List.length_cons]
    omega
theorem cmpQ_three (a b : Rat) : cmpQ a b = -1 ∨ cmpQ a b = 0 ∨ cmpQ a b = 1 := by
  unfold cmpQ
  split
  · exact Or.inl rfl
  · split
    · exact Or.inr (Or.inr rfl)
    · exact Or.inr (Or.inl rfl)
def sideOf (bids : Bool) : Int := if bids then 1 else -1

end Go.Proofs.YtnjpojpfiijlfaaGreat
