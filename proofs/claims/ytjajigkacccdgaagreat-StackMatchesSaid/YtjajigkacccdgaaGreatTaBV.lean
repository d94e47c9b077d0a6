/-
Merged stacks by their levels; levels laid anew. No statement of the seat is proved here; no conditions beyond those of each theorem.
-/
import Derived.Test.YtjajigkacccdgaaGreatTaBU
import Derived.Test.YtjajigkacccdgaaGreatTaBG
import Derived.Test.YtjajigkacccdgaaGreatTaBB
namespace Go.Proofs.YtjajigkacccdgaaGreat
set_option linter.unusedVariables false
set_option linter.unusedSimpArgs false
open Go.RowKit
open Wd


theorem merge_offers_lv (A : Option Addr) (n c : Nat) (ls : List (List (Int × Int))) (lv : List St.Lv) (w : World) (h : CsAt w A n ls) (hs : ∀ l ∈ ls, l.length ≤ 1000000000000) (hc : (ckC true ls).2 = 0) (hl : St.IsLv true n (St.tri 0 ls) lv) :
  Calls Tryz.prog 16 #[.slice A n c] w fun e w' => ∃ mg cap, e = .returned (.tuple #[.slice (some ⟨mg, 0, none⟩) lv.length cap, .int .i64 0, .int .i64 0]) ∧ LvAt w' (some ⟨mg, 0, none⟩) lv.length n lv ∧ VL true n lv ∧ Below w.heap.size w w' := by
 refine (merge_offers_ok A n c ls w h hs hc).mono ?_
 rintro e w' ⟨D, mg, cap, rfl, h1, h2, h3, h4⟩
 have he : lvOf n (St.tri 0 ls) D = lv := (lvOf_is h1 h2).only hl
 have hlen : lv.length = D.length := by rw [← he]; simp [lvOf]
 refine ⟨mg, cap, by rw [hlen], ?_, ?_, h4⟩
 ·have := h3.at
  rw [he] at this
  rwa [hlen]
 ·have hn := h.1
  subst hn
  exact lv_valid hc hl

theorem merge_bids_lv (A : Option Addr) (n c : Nat) (ls : List (List (Int × Int))) (lv : List St.Lv) (w : World) (h : CsAt w A n ls) (hs : ∀ l ∈ ls, l.length ≤ 1000000000000) (hc : (ckC false ls).2 = 0) (hl : St.IsLv false n (St.tri 0 ls) lv) :
  Calls Tryz.prog 17 #[.slice A n c] w fun e w' => ∃ mg cap, e = .returned (.tuple #[.slice (some ⟨mg, 0, none⟩) lv.length cap, .int .i64 0, .int .i64 0]) ∧ LvAt w' (some ⟨mg, 0, none⟩) lv.length n lv ∧ VL false n lv ∧ Below w.heap.size w w' := by
 refine (merge_bids_ok A n c ls w h hs hc).mono ?_
 rintro e w' ⟨D, mg, cap, rfl, h1, h2, h3, h4⟩
 have he : lvOf n (St.tri 0 ls) D = lv := (lvOf_is h1 h2).only hl
 have hlen : lv.length = D.length := by rw [← he]; simp [lvOf]
 refine ⟨mg, cap, by rw [hlen], ?_, ?_, h4⟩
 ·have := h3.at
  rw [he] at this
  rwa [hlen]
 ·have hn := h.1
  subst hn
  exact lv_valid hc hl

theorem IsAt.lit {w : World} {g : Nat} {xs : List Int} {n : Nat} {cs : Array Value} (h : Blk w g 2 cs) (hc : cs = (xs.map (Value.int .i64)).toArray) (hl : xs.length = n) : IsAt w (some ⟨g, 0, none⟩) n xs := by
 subst hc
 exact IRow.at (show IRow w g xs from h) hl
theorem CsAt.two {w : World} {g : Nat} {t : TypeId} {A1 A2 : Option Addr} {n1 c1 n2 c2 : Nat} {l1 l2 : List (Int × Int)} (h : Blk w g t #[.slice A1 n1 c1, .slice A2 n2 c2]) (h1 : StAt w A1 n1 l1) (h2 : StAt w A2 n2 l2) : CsAt w (some ⟨g, 0, none⟩) 2 [l1, l2] := by
 refine ⟨rfl, fun _ => ⟨g, 0, rfl, h.lt, fun j hj => ?_⟩⟩
 obtain rfl | rfl : j = 0 ∨ j = 1 := by omega
 ·exact ⟨A1, n1, c1, h.cell 0, h1⟩
 ·exact ⟨A2, n2, c2, h.cell 1, h2⟩
theorem LvAt.two {w : World} {g n : Nat} {t : TypeId} {p1 q1 p2 q2 : Int} {A1 A2 : Option Addr} {c1 c2 : Nat} {x1 x2 : List Int} (h : Blk w g t #[.int .i64 p1, .int .i64 q1, .slice A1 n c1, .int .i64 p2, .int .i64 q2, .slice A2 n c2]) (h1 : IsAt w A1 n x1) (h2 : IsAt w A2 n x2) :
  LvAt w (some ⟨g, 0, none⟩) 2 n [(p1, q1, x1), (p2, q2, x2)] := by
 refine ⟨rfl, fun _ => ⟨g, 0, rfl, h.lt, fun j hj => ?_⟩⟩
 obtain rfl | rfl : j = 0 ∨ j = 1 := by omega
 ·exact ⟨A1, c1, ⟨h.cell 0, h.cell 1, h.cell 2⟩, h1⟩
 ·exact ⟨A2, c2, ⟨h.cell 3, h.cell 4, h.cell 5⟩, h2⟩
theorem LvAt.three {w : World} {g n : Nat} {t : TypeId} {p1 q1 p2 q2 p3 q3 : Int} {A1 A2 A3 : Option Addr} {c1 c2 c3 : Nat} {x1 x2 x3 : List Int} (h : Blk w g t #[.int .i64 p1, .int .i64 q1, .slice A1 n c1, .int .i64 p2, .int .i64 q2, .slice A2 n c2, .int .i64 p3, .int .i64 q3, .slice A3 n c3]) (h1 : IsAt w A1 n x1) (h2 : IsAt w A2 n x2) (h3 : IsAt w A3 n x3) :
  LvAt w (some ⟨g, 0, none⟩) 3 n [(p1, q1, x1), (p2, q2, x2), (p3, q3, x3)] := by
 refine ⟨rfl, fun _ => ⟨g, 0, rfl, h.lt, fun j hj => ?_⟩⟩
 obtain rfl | rfl | rfl : j = 0 ∨ j = 1 ∨ j = 2 := by omega
 ·exact ⟨A1, c1, ⟨h.cell 0, h.cell 1, h.cell 2⟩, h1⟩
 ·exact ⟨A2, c2, ⟨h.cell 3, h.cell 4, h.cell 5⟩, h2⟩
 ·exact ⟨A3, c3, ⟨h.cell 6, h.cell 7, h.cell 8⟩, h3⟩

def exO : List St.Lv := [(1, 5, [5, 0]), (2, 3, [0, 3]), (3, 7, [4, 3])]
def exB : List St.Lv := [(9, 7, [4, 3]), (2, 4, [4, 0])]
theorem exO_is : St.IsLv true 2 (St.tri 0 [[(5, 1), (4, 3)], [(3, 2), (3, 3)]]) exO := by
 refine ⟨by simp [exO, St.ltU], fun p => ?_, ?_⟩
 ·simp [exO, St.tri]
  omega
 ·intro x hx
  simp [exO] at hx
  rcases hx with rfl | rfl | rfl <;> decide
theorem exB_is : St.IsLv false 2 (St.tri 0 [[(4, 9), (4, 2)], [(3, 9)]]) exB := by
 refine ⟨by simp [exB, St.ltU], fun p => ?_, ?_⟩
 ·simp [exB, St.tri]
  omega
 ·intro x hx
  simp [exB] at hx
  rcases hx with rfl | rfl <;> decide
theorem exO_ck : (ckC true [[(5, 1), (4, 3)], [(3, 2), (3, 3)]]).2 = 0 := by decide
theorem exB_ck : (ckC false [[(4, 9), (4, 2)], [(3, 9)]]).2 = 0 := by decide
theorem exO_tot : totI exO = 15 := by decide
theorem exB_tot : totI exB = 11 := by decide
theorem exO_s10 : shAll exO 2 10 3 = [5, 5] := by decide
theorem exO_s12 : shAll exO 2 12 3 = [6, 6] := by decide
theorem exB_s5 : shAll exB 2 5 2 = [2, 3] := by decide
theorem exO_c10 : costI (lvQ exO) 10 3 = 17 := by decide
theorem exO_c12 : costI (lvQ exO) 12 3 = 23 := by decide
theorem exB_c5 : costI (lvQ exB) 5 2 = 45 := by decide
theorem prs_a : prs [5, 1, 4, 3] 2 = [(5, 1), (4, 3)] := rfl
theorem prs_b : prs [3, 2, 3, 3] 2 = [(3, 2), (3, 3)] := rfl
theorem prs_c : prs [4, 9, 4, 2] 2 = [(4, 9), (4, 2)] := rfl
theorem prs_d : prs [3, 9] 1 = [(3, 9)] := rfl
theorem fits_lit {xs : List Int} (h : ∀ x ∈ xs, -100 ≤ x ∧ x ≤ 100) : ∀ i : Nat, Fits (xs[i]?.getD 0) := fun i => by
 by_cases hi : i < xs.length
 ·have := h _ (getD_mem (d := 0) hi)
  unfold Fits
  omega
 ·rw [List.getElem?_eq_none (by omega)]
  unfold Fits
  simp

end Go.Proofs.YtjajigkacccdgaaGreat
