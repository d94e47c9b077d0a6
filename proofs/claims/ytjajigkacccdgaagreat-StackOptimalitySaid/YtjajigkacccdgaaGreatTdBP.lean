/-
The statements of layer 24: stacked. Rows of curves of the call's own; what Long tells. check and balances of package clear. traded of package clear: the least quantity at which the next unit is not worth trading. The statements of layer 24: at. Plain law of Share: all of a stack, nothing of it. The statements of layer 24: awake. The walk of StackCompleteness. integer, shares and gain of package clear, at whole quantities. sort.Slice of integers in clearingPrice of package clear. No statement of the seat is proved here; no conditions beyond those of each theorem.
-/
import Derived.Test.YtjajigkacccdgaaGreatTdBO
import Derived.Test.YtjajigkacccdgaaGreatTdBM
import Derived.Test.YtjajigkacccdgaaGreatTdBD
import Derived.Test.YtjajigkacccdgaaGreatTdBC
import Derived.Shelf.GgSortFunc.Whole
namespace Go.Proofs.YtjajigkacccdgaaGreat
set_option linter.unusedVariables false
set_option linter.unusedSimpArgs false
open Go.RowKit
open Wd
/-- What a merge returns. -/
def MgR (up : Bool) (n : Nat) (ls : List (List (Int × Int))) (w : World) (e : Ending) (w' : World) : Prop :=
 ∃ (A : Option Addr) (m cap : Nat) (pl : Int) (lv : List St.Lv), e = .returned (.tuple #[.slice A m cap, .int .i64 pl, .int .i64 (ckC up ls).2]) ∧ LvAt w' A m n lv ∧ ((ckC up ls).2 = 0 → St.IsLv up n (St.tri 0 ls) lv ∧ VL up n lv) ∧ ((ckC up ls).2 ≠ 0 → m = 0) ∧ Below w.heap.size w w'

theorem merge_offers_any (A : Option Addr) (n c : Nat) (ls : List (List (Int × Int))) (w : World) (h : CsAt w A n ls) (hs : ∀ l ∈ ls, l.length ≤ 1000000000000) :
  Calls Tryz.prog 16 #[.slice A n c] w (MgR true n ls w) := by
 by_cases hc : (ckC true ls).2 = 0
 ·refine (merge_offers_ok A n c ls w h hs hc).mono ?_
  rintro e w' ⟨D, mg, cap, rfl, h1, h2, h3, h4⟩
  have hn := h.1
  subst hn
  refine ⟨some ⟨mg, 0, none⟩, D.length, cap, 0, lvOf ls.length (St.tri 0 ls) D, by rw [hc], h3.at, fun _ => ⟨lvOf_is h1 h2, lv_valid hc (lvOf_is h1 h2)⟩, fun h0 => absurd hc h0, h4⟩
 ·refine (merge_offers_no A n c ls w h hs hc).mono ?_
  rintro e w' ⟨rfl, h4⟩
  exact ⟨none, 0, 0, _, [], rfl, ⟨rfl, fun h0 => absurd rfl h0⟩, fun h0 => absurd h0 hc, fun _ => rfl, h4⟩

theorem merge_bids_any (A : Option Addr) (n c : Nat) (ls : List (List (Int × Int))) (w : World) (h : CsAt w A n ls) (hs : ∀ l ∈ ls, l.length ≤ 1000000000000) :
  Calls Tryz.prog 17 #[.slice A n c] w (MgR false n ls w) := by
 by_cases hc : (ckC false ls).2 = 0
 ·refine (merge_bids_ok A n c ls w h hs hc).mono ?_
  rintro e w' ⟨D, mg, cap, rfl, h1, h2, h3, h4⟩
  have hn := h.1
  subst hn
  refine ⟨some ⟨mg, 0, none⟩, D.length, cap, 0, lvOf ls.length (St.tri 0 ls) D, by rw [hc], h3.at, fun _ => ⟨lvOf_is h1 h2, lv_valid hc (lvOf_is h1 h2)⟩, fun h0 => absurd hc h0, h4⟩
 ·refine (merge_bids_no A n c ls w h hs hc).mono ?_
  rintro e w' ⟨rfl, h4⟩
  exact ⟨none, 0, 0, _, [], rfl, ⟨rfl, fun h0 => absurd rfl h0⟩, fun h0 => absurd h0 hc, fun _ => rfl, h4⟩

/-- What stacked returns: the stack of good curves, or nothing and the error. -/
def SkO (up : Bool) (n : Nat) (ls : List (List (Int × Int))) (w : World) (e : Ending) (w' : World) : Prop :=
 ∃ (A : Option Addr) (m cap : Nat) (lv : List St.Lv), e = .returned (.tuple #[.slice A m cap, .int .i64 (ckC up ls).2]) ∧ LvAt w' A m n lv ∧ ((ckC up ls).2 = 0 → St.IsLv up n (St.tri 0 ls) lv ∧ VL up n lv) ∧ ((ckC up ls).2 ≠ 0 → m = 0) ∧ Below w.heap.size w w'

set_option maxRecDepth 100000 in
set_option maxHeartbeats 1000000 in
theorem stacked_any (A : Option Addr) (n c : Nat) (ls : List (List (Int × Int))) (bids : Bool) (w : World) (h : CsAt w A n ls) (hs : ∀ l ∈ ls, l.length ≤ 1000000000000) :
  Calls Tryz.prog 39 #[.slice A n c, .bool bids] w (SkO (!bids) n ls w) := by
 have HO := Lib.hid (merge_offers_any A n c ls w h hs)
 have HB := Lib.hid (fun W (hW : Below w.heap.size w W) => merge_bids_any A n c ls W (h.below hW) hs)
 clear h hs
 cases bids
 ·simp only [Bool.not_false]
  go_enter Tryz.func39, Tryz.ntmps39
  go_wp2_with fail
  refine HO.out.mono ?_
  rintro e w1 ⟨B, m, cap, pl, lv, rfl, hR⟩
  have HR := Lib.hid hR
  clear hR
  go_wp2
  go_ret2
  exact ⟨B, m, cap, lv, rfl, HR.out⟩
 ·simp only [Bool.not_true]
  go_enter Tryz.func39, Tryz.ntmps39
  go_wp2_with fail
  refine HO.out.mono ?_
  rintro e w1 ⟨B, m, cap, pl, lv, rfl, hR⟩
  have HR := Lib.hid hR.2.2.2
  clear hR
  go_wp2_with fail
  refine (HB.out w1 HR.out).mono ?_
  rintro e w2 ⟨B2, m2, cap2, pl2, lv2, rfl, hR2⟩
  have hR3 := And.intro hR2.1 (And.intro hR2.2.1 (And.intro hR2.2.2.1 (HR.out.trans (hR2.2.2.2.mono HR.out.size))))
  have HR2 := Lib.hid hR3
  clear hR2 hR3
  go_wp2
  go_ret2
  exact ⟨B2, m2, cap2, lv2, rfl, HR2.out⟩

end Go.Proofs.YtjajigkacccdgaaGreat

namespace Go.Proofs.YtjajigkacccdgaaGreat
set_option linter.unusedVariables false
set_option linter.unusedSimpArgs false
open Go.RowKit
open Wd

theorem longC_no {ls : List (List (Int × Int))} (h : longC ls = false) : ls.length ≤ 40 ∧ ∀ l ∈ ls, l.length ≤ 20 := by
 unfold longC at h
 rw [Bool.or_eq_false_iff] at h
 refine ⟨by have := h.1; simp at this; exact this, fun l hl => ?_⟩
 have := List.any_eq_false.1 h.2 l hl
 simpa using this
theorem longC_small {ls : List (List (Int × Int))} (h : longC ls = false) : ∀ l ∈ ls, l.length ≤ 1000000000000 := fun l hl => by have := (longC_no h).2 l hl; omega

theorem CsAt.cells {w : World} {A : Option Addr} {n : Nat} {ls : List (List (Int × Int))} (h : CsAt w A n ls) (hn : n ≠ 0) :
  ∃ (b o : Nat) (F : Nat → Option Addr × Nat × Nat), A = some ⟨b, o, none⟩ ∧ b < w.heap.size ∧ ∀ j, j < n → w.cell? ⟨b, o + j, none⟩ = some (.slice (F j).1 (F j).2.1 (F j).2.2) ∧ StAt w (F j).1 (F j).2.1 (ls[j]?.getD []) := by
 obtain ⟨b, o, rfl, hb, hc⟩ := h.2 hn
 have : ∀ j, ∃ x : Option Addr × Nat × Nat, j < n → w.cell? ⟨b, o + j, none⟩ = some (.slice x.1 x.2.1 x.2.2) ∧ StAt w x.1 x.2.1 (ls[j]?.getD []) := fun j => by
  by_cases hj : j < n
  ·obtain ⟨A', n', c', h1, h2⟩ := hc j hj
   exact ⟨(A', n', c'), fun _ => ⟨h1, h2⟩⟩
  ·exact ⟨(none, 0, 0), fun h => absurd h hj⟩
 obtain ⟨F, hF⟩ := Classical.skolem.1 this
 exact ⟨b, o, F, rfl, hb, hF⟩


end Go.Proofs.YtjajigkacccdgaaGreat
namespace Go.Proofs.YtjajigkacccdgaaGreat
set_option linter.unusedVariables false
set_option linter.unusedSimpArgs false
open Go.RowKit
open Wd
/-- The error of offers and bids. -/
def ckB (os bs : List (List (Int × Int))) : Int := if 5 < os.length ∨ 6 < bs.length then 5 else if (ckF true 0 os).2 ≠ 0 then (ckF true 0 os).2 else (ckF false 0 bs).2

theorem ckF_zero_iff {up : Bool} {ls : List (List (Int × Int))} {k : Nat} : (ckF up k ls).2 = 0 ↔ ∀ l ∈ ls, chk up l = 0 := ⟨fun h => ckF_good h, fun h => ckF_zero h⟩
theorem ckB_iff {os bs : List (List (Int × Int))} : ckB os bs = 0 ↔ os.length ≤ 5 ∧ bs.length ≤ 6 ∧ (∀ l ∈ os, chk true l = 0) ∧ ∀ l ∈ bs, chk false l = 0 := by
 unfold ckB
 split
 ·constructor
  ·intro h; simp at h
  ·rintro ⟨h1, h2, _⟩; omega
 ·split
  ·rename_i h1 h2
   constructor
   ·intro h; exact absurd h h2
   ·rintro ⟨_, _, h3, _⟩; exact absurd (ckF_zero h3) h2
  ·rename_i h1 h2
   rw [ckF_zero_iff]
   constructor
   ·intro h
    exact ⟨by omega, by omega, ckF_zero_iff.1 (Classical.not_not.1 h2), h⟩
   ·rintro ⟨_, _, _, h⟩; exact h




/-- What the curves of one side want together. -/
def wsL (side : Int) (q : Rat) (ls : List (List (Int × Int))) : Int := sumI (ls.map (wlL side q))
def wsM (side : Int) (q : Rat) (ls : List (List (Int × Int))) : Int := sumI (ls.map (wlM side q))
def balB (os bs : List (List (Int × Int))) (q : Rat) : Bool := decide (wsL (-1) q os ≤ wsM 1 q bs) && decide (wsL 1 q bs ≤ wsM (-1) q os)



end Go.Proofs.YtjajigkacccdgaaGreat
namespace Go.Proofs.YtjajigkacccdgaaGreat
set_option linter.unusedVariables false
set_option linter.unusedSimpArgs false
open Go.RowKit
open Wd
/-- The price of the unit u of a stack. -/
def uP : List St.Lv → Int → Option Int
 | [], _ => none
 | x :: r, u => if u < x.2.1 then some x.1 else uP r (u - x.2.1)


/-- Is the unit u worth trading? -/
def okU (S D : List St.Lv) (u : Int) : Prop := ∃ a b, uP S u = some a ∧ uP D u = some b ∧ a < b
/-- The quantity traded. -/
def TrZ (S D : List St.Lv) (z : Int) : Prop := 0 ≤ z ∧ (∀ u, 0 ≤ u → u < z → okU S D u) ∧ ¬ okU S D z
theorem TrZ.only {S D : List St.Lv} {z z' : Int} (h : TrZ S D z) (h' : TrZ S D z') : z = z' := by
 rcases Int.lt_trichotomy z z' with hl | hl | hl
 ·exact absurd (h'.2.1 z h.1 hl) h.2.2
 ·exact hl
 ·exact absurd (h.2.1 z' h'.1 hl) h'.2.2

/-- While the levels are gone through. -/
structure TrI (S D : List St.Lv) (i k : Nat) (z s b : Int) : Prop where
 s0 : 0 ≤ s
 b0 : 0 ≤ b
 si : i < S.length → s < (S[i]?.getD Lv0).2.1
 bi : k < D.length → b < (D[k]?.getD Lv0).2.1
 se : ¬ i < S.length → s = 0
 be : ¬ k < D.length → b = 0
 zs : z = totI (S.take i) + s
 zb : z = totI (D.take k) + b
 ok : ∀ u, 0 ≤ u → u < z → okU S D u



end Go.Proofs.YtjajigkacccdgaaGreat
namespace Go.Proofs.YtjajigkacccdgaaGreat
set_option linter.unusedVariables false
set_option linter.unusedSimpArgs false
open Go.RowKit
open Wd



end Go.Proofs.YtjajigkacccdgaaGreat
namespace Go.Proofs.YtjajigkacccdgaaGreat
set_option linter.unusedVariables false
set_option linter.unusedSimpArgs false
open Go.RowKit
open Wd
theorem shRow_get {xs : List Int} {n : Nat} {t : Int} {ys : List Int} (hy : ys.length = n) : ∀ j, j ≤ n → ∀ i, i < n → (shRow xs n t ys j)[i]?.getD 0 = ys[i]?.getD 0 + if n - j ≤ i then shPart xs n t (n - 1 - i) else 0
 | 0, _, i, hi => by rw [shRow, if_neg (by omega)]; omega
 | j + 1, hj, i, hi => by
  have ih := shRow_get (xs := xs) (t := t) hy j (by omega)
  have hlen := shRow_len xs n t ys j
  rw [shRow, List.getElem?_set]
  by_cases e : n - 1 - j = i
  ·rw [if_pos e, if_pos (by omega), if_pos (by omega), ih (n - 1 - j) (by omega), if_neg (by omega)]
   simp only [Option.getD_some]
   rw [← e, show n - 1 - (n - 1 - j) = j by omega]
   omega
  ·rw [if_neg e, ih i hi]
   by_cases h2 : n - j ≤ i
   ·rw [if_pos h2, if_pos (by omega)]
   ·rw [if_neg h2, if_neg (by omega)]
theorem shRest_all {xs : List Int} {n : Nat} (hx : ∀ y ∈ xs, 0 ≤ y ∧ y ≤ 1000000) (hl : xs.length = n) : ∀ j, j ≤ n → shRest xs n (sumI xs) j = sumI (xs.take (n - j))
 | 0, _ => by rw [shRest, List.take_of_length_le (by omega)]
 | j + 1, hj => by
  have ih := shRest_all hx hl j (by omega)
  have h1 := take_int (xs := xs) (k := n - (j + 1)) (by omega)
  have h2 := sumI_bd (xs.take (n - (j + 1))) fun y hy => hx y (List.mem_of_mem_take hy)
  have h3 := hx _ (getD_mem (d := 0) (show n - (j + 1) < xs.length by omega))
  rw [show n - (j + 1) + 1 = n - j by omega] at h1
  rw [shRest, ih, h1, sumI_snoc, show n - 1 - j = n - (j + 1) by omega]
  omega
theorem shPart_all {xs : List Int} {n : Nat} (hx : ∀ y ∈ xs, 0 ≤ y ∧ y ≤ 1000000) (hl : xs.length = n) {i : Nat} (hi : i < n) : shPart xs n (sumI xs) (n - 1 - i) = xs[i]?.getD 0 := by
 have h0 := shRest_all hx hl (n - 1 - i) (by omega)
 have h1 := take_int (xs := xs) (k := i) (by omega)
 have h2 := sumI_bd (xs.take i) fun y hy => hx y (List.mem_of_mem_take hy)
 unfold shPart
 rw [h0, show n - (n - 1 - i) = i + 1 by omega, h1, sumI_snoc, show n - 1 - (n - 1 - i) = i by omega]
 omega
theorem shRest_zero {xs : List Int} {n : Nat} (hx : ∀ y ∈ xs, 0 ≤ y ∧ y ≤ 1000000) (hl : xs.length = n) {j : Nat} (hj : j ≤ n) : shRest xs n 0 j = 0 := by
 have := shRest_bd hx hl (Int.le_refl 0) j hj
 omega
theorem shPart_zero {xs : List Int} {n : Nat} (hx : ∀ y ∈ xs, 0 ≤ y ∧ y ≤ 1000000) (hl : xs.length = n) {j : Nat} (hj : j < n) : shPart xs n 0 j = 0 := by
 have h1 := shRest_zero hx hl (j := j) (by omega)
 have := hx _ (getD_mem (d := 0) (show n - 1 - j < xs.length by omega))
 unfold shPart
 rw [h1]
 omega





namespace St

end St
end Go.Proofs.YtjajigkacccdgaaGreat
namespace Go.Proofs.YtjajigkacccdgaaGreat
set_option linter.unusedVariables false
set_option linter.unusedSimpArgs false
open Go.RowKit
open Wd
set_option maxRecDepth 100000 in
set_option maxHeartbeats 4000000 in
theorem awake24_any (w : World) : Calls Tryz.prog 13 #[] w fun e w' => e = .returned (.bool true) ∧ Below w.heap.size w w' := by
 have HKw := Lib.hid (Below.refl w.heap.size w)
 go_enter Tryz.func13, Tryz.ntmps13
 have hK : Below w.heap.size w (w.alloc (.cells #[.int .i64 5, .int .i64 1, .int .i64 4, .int .i64 3] 2)) := HKw.out.alloc HKw.out.size _
 have HC := Lib.hid (curve_any (some ⟨w.heap.size, 0, none⟩) 2 4 [5, 1, 4, 3] _ (IsAt.lit (Blk.new w 2 #[.int .i64 5, .int .i64 1, .int .i64 4, .int .i64 3]) rfl rfl) (by omega) (fits_lit (by simp)))
 rw [prs_a] at HC
 have HKX := Lib.hid hK
 clear hK
 go_wp2_with fail
 refine HC.out.mono ?_
 rintro e w1 ⟨A1, c1, rfl, hS, hb⟩
 have HKw1 := Lib.hid (HKX.out.trans (hb.mono HKX.out.size))
 have HL := Lib.hid (show Below w.heap.size w w1 from ((Below.refl _ _).alloc (Nat.le_refl _) _).trans (hb.mono (by simp)))
 have HS1 := Lib.hid hS
 clear hS hb HC HKX
 clear HL
 have hK : Below w.heap.size w (w1.alloc (.cells #[.int .i64 3, .int .i64 2, .int .i64 3, .int .i64 3] 2)) := HKw1.out.alloc HKw1.out.size _
 have HC := Lib.hid (curve_any (some ⟨w1.heap.size, 0, none⟩) 2 4 [3, 2, 3, 3] _ (IsAt.lit (Blk.new w1 2 #[.int .i64 3, .int .i64 2, .int .i64 3, .int .i64 3]) rfl rfl) (by omega) (fits_lit (by simp)))
 rw [prs_b] at HC
 have HKX := Lib.hid hK
 clear hK
 go_wp2_with fail
 refine HC.out.mono ?_
 rintro e w2 ⟨A2, c2, rfl, hS, hb⟩
 have HKw2 := Lib.hid (HKX.out.trans (hb.mono HKX.out.size))
 have HL := Lib.hid (show Below w1.heap.size w1 w2 from ((Below.refl _ _).alloc (Nat.le_refl _) _).trans (hb.mono (by simp)))
 have HS2 := Lib.hid hS
 clear hS hb HC HKX
 have HS1 := Lib.hid (HS1.out.below HL.out)
 clear HL
 have hK : Below w.heap.size w (w2.alloc (.cells #[.slice A1 2 c1, .slice A2 2 c2] 29)) := HKw2.out.alloc HKw2.out.size _
 have kx := (Kp.refl w2).alloc (.cells #[.slice A1 2 c1, .slice A2 2 c2] 29)
 have HC := Lib.hid (merge_offers_lv (some ⟨w2.heap.size, 0, none⟩) 2 2 _ exO _ (CsAt.two (Blk.new w2 29 #[.slice A1 2 c1, .slice A2 2 c2]) (HS1.out.below kx) (HS2.out.below kx)) (by simp) exO_ck exO_is)
 rw [show exO.length = 3 from rfl] at HC
 have HKX := Lib.hid hK
 clear hK kx HS1 HS2
 go_wp2_with fail
 refine HC.out.mono ?_
 rintro e w3 ⟨mg, cap, rfl, hL, hV, hb⟩
 have HKw3 := Lib.hid (HKX.out.trans (hb.mono HKX.out.size))
 have HLO := Lib.hid hL
 have HVO := Lib.hid hV
 clear hb hL hV HC HKX
 have hK : Below w.heap.size w (w3.alloc (.cells #[.int .i64 4, .int .i64 9, .int .i64 4, .int .i64 2] 2)) := HKw3.out.alloc HKw3.out.size _
 have HC := Lib.hid (curve_any (some ⟨w3.heap.size, 0, none⟩) 2 4 [4, 9, 4, 2] _ (IsAt.lit (Blk.new w3 2 #[.int .i64 4, .int .i64 9, .int .i64 4, .int .i64 2]) rfl rfl) (by omega) (fits_lit (by simp)))
 rw [prs_c] at HC
 have HKX := Lib.hid hK
 clear hK
 go_wp2_with fail
 refine HC.out.mono ?_
 rintro e w4 ⟨A3, c3, rfl, hS, hb⟩
 have HKw4 := Lib.hid (HKX.out.trans (hb.mono HKX.out.size))
 have HL := Lib.hid (show Below w3.heap.size w3 w4 from ((Below.refl _ _).alloc (Nat.le_refl _) _).trans (hb.mono (by simp)))
 have HS3 := Lib.hid hS
 clear hS hb HC HKX
 have HLO := Lib.hid (HLO.out.below HL.out)
 clear HL
 have hK : Below w.heap.size w (w4.alloc (.cells #[.int .i64 3, .int .i64 9] 2)) := HKw4.out.alloc HKw4.out.size _
 have HC := Lib.hid (curve_any (some ⟨w4.heap.size, 0, none⟩) 1 2 [3, 9] _ (IsAt.lit (Blk.new w4 2 #[.int .i64 3, .int .i64 9]) rfl rfl) (by omega) (fits_lit (by simp)))
 rw [prs_d] at HC
 have HKX := Lib.hid hK
 clear hK
 go_wp2_with fail
 refine HC.out.mono ?_
 rintro e w5 ⟨A4, c4, rfl, hS, hb⟩
 have HKw5 := Lib.hid (HKX.out.trans (hb.mono HKX.out.size))
 have HL := Lib.hid (show Below w4.heap.size w4 w5 from ((Below.refl _ _).alloc (Nat.le_refl _) _).trans (hb.mono (by simp)))
 have HS4 := Lib.hid hS
 clear hS hb HC HKX
 have HLO := Lib.hid (HLO.out.below HL.out)
 have HS3 := Lib.hid (HS3.out.below HL.out)
 clear HL
 have hK : Below w.heap.size w (w5.alloc (.cells #[.slice A3 2 c3, .slice A4 1 c4] 29)) := HKw5.out.alloc HKw5.out.size _
 have kx := (Kp.refl w5).alloc (.cells #[.slice A3 2 c3, .slice A4 1 c4] 29)
 have HC := Lib.hid (merge_bids_lv (some ⟨w5.heap.size, 0, none⟩) 2 2 _ exB _ (CsAt.two (Blk.new w5 29 #[.slice A3 2 c3, .slice A4 1 c4]) (HS3.out.below kx) (HS4.out.below kx)) (by simp) exB_ck exB_is)
 rw [show exB.length = 2 from rfl] at HC
 have HKX := Lib.hid hK
 have HLO := Lib.hid (HLO.out.below kx)
 clear hK kx HS3 HS4
 go_wp2_with fail
 refine HC.out.mono ?_
 rintro e w6 ⟨mh, cbp, rfl, hL, hV, hb⟩
 have HKw6 := Lib.hid (HKX.out.trans (hb.mono HKX.out.size))
 have HLO := Lib.hid (HLO.out.below hb)
 have HLB := Lib.hid hL
 have HVB := Lib.hid hV
 clear hb hL hV HC HKX
 go_wp2_with fail
 refine (qfromInt64_any 16 w6 (by omega) (by omega)).mono ?_
 rintro e w7 ⟨A5, k5, c5, A6, k6, c6, rfl, hk5, hk6, hW5, hW6, -, -, hb⟩
 have HKw7 := Lib.hid (HKw6.out.trans (hb.mono HKw6.out.size))
 have HLO := Lib.hid (HLO.out.below hb)
 have HLB := Lib.hid (HLB.out.below hb)
 have HC := Lib.hid (share_over true (some ⟨mg, 0, none⟩) 3 2 cap exO 16 A5 A6 k5 c5 k6 c6 w7 HLO.out HVO.out ⟨hk5, hk6, hW5, hW6⟩ (by omega) (by rw [exO_tot]; omega) (by omega))
 clear hb hk5 hk6 hW5 hW6
 go_wp2_with fail
 refine HC.out.mono ?_
 rintro e w8 ⟨rfl, hb⟩
 have HKw8 := Lib.hid (HKw7.out.trans (hb.mono HKw7.out.size))
 have HLO := Lib.hid (HLO.out.below hb)
 have HLB := Lib.hid (HLB.out.below hb)
 clear hb HC
 have HC := Lib.hid (told_any (some ⟨mg, 0, none⟩) 3 2 cap exO w8 HLO.out (by omega) (by omega))
 go_wp2_with fail
 refine HC.out.mono ?_
 rintro e w9 ⟨T1, t1, rfl, hM, hb⟩
 have HL := Lib.hid (show Below w8.heap.size w8 w9 from hb)
 have HKw9 := Lib.hid (HKw8.out.trans (HL.out.mono HKw8.out.size))
 have HT := Lib.hid hM
 clear hM
 have HLO := Lib.hid (HLO.out.below HL.out)
 have HLB := Lib.hid (HLB.out.below HL.out)
 clear hb HC HL
 have hI := IsAt.lit (xs := [5, 0]) (n := 2) (Blk.new w9 2 #[.int .i64 5, .int .i64 0]) rfl rfl
 have HC := Lib.hid (level_any 1 5 (some ⟨w9.heap.size, 0, none⟩) 2 2 (w9.alloc (.cells #[.int .i64 5, .int .i64 0] 2)))
 have HI := Lib.hid hI
 clear hI
 go_wp2_with fail
 refine HC.out.mono ?_
 rintro e w10 ⟨rfl, hb⟩
 have HL := Lib.hid (show Below w9.heap.size w9 w10 from ((Below.refl _ _).alloc (Nat.le_refl _) _).trans (hb.mono (by simp)))
 have HKw10 := Lib.hid (HKw9.out.trans (HL.out.mono HKw9.out.size))
 have HX1 := Lib.hid (HI.out.below hb)
 have HLO := Lib.hid (HLO.out.below HL.out)
 have HLB := Lib.hid (HLB.out.below HL.out)
 have HT := Lib.hid (HT.out.below HL.out)
 clear hb HC HL
 clear HI
 have hI := IsAt.lit (xs := [0, 3]) (n := 2) (Blk.new w10 2 #[.int .i64 0, .int .i64 3]) rfl rfl
 have HC := Lib.hid (level_any 2 3 (some ⟨w10.heap.size, 0, none⟩) 2 2 (w10.alloc (.cells #[.int .i64 0, .int .i64 3] 2)))
 have HI := Lib.hid hI
 clear hI
 go_wp2_with fail
 refine HC.out.mono ?_
 rintro e w11 ⟨rfl, hb⟩
 have HL := Lib.hid (show Below w10.heap.size w10 w11 from ((Below.refl _ _).alloc (Nat.le_refl _) _).trans (hb.mono (by simp)))
 have HKw11 := Lib.hid (HKw10.out.trans (HL.out.mono HKw10.out.size))
 have HX2 := Lib.hid (HI.out.below hb)
 have HLO := Lib.hid (HLO.out.below HL.out)
 have HLB := Lib.hid (HLB.out.below HL.out)
 have HT := Lib.hid (HT.out.below HL.out)
 have HX1 := Lib.hid (HX1.out.below HL.out)
 clear hb HC HL
 clear HI
 have hI := IsAt.lit (xs := [4, 3]) (n := 2) (Blk.new w11 2 #[.int .i64 4, .int .i64 3]) rfl rfl
 have HC := Lib.hid (level_any 3 7 (some ⟨w11.heap.size, 0, none⟩) 2 2 (w11.alloc (.cells #[.int .i64 4, .int .i64 3] 2)))
 have HI := Lib.hid hI
 clear hI
 go_wp2_with fail
 refine HC.out.mono ?_
 rintro e w12 ⟨rfl, hb⟩
 have HL := Lib.hid (show Below w11.heap.size w11 w12 from ((Below.refl _ _).alloc (Nat.le_refl _) _).trans (hb.mono (by simp)))
 have HKw12 := Lib.hid (HKw11.out.trans (HL.out.mono HKw11.out.size))
 have HX3 := Lib.hid (HI.out.below hb)
 have HLO := Lib.hid (HLO.out.below HL.out)
 have HLB := Lib.hid (HLB.out.below HL.out)
 have HT := Lib.hid (HT.out.below HL.out)
 have HX1 := Lib.hid (HX1.out.below HL.out)
 have HX2 := Lib.hid (HX2.out.below HL.out)
 clear hb HC HL
 clear HI
 have kx := (Kp.refl w12).alloc (.cells #[.int .i64 1, .int .i64 5, .slice (some ⟨w9.heap.size, 0, none⟩) 2 2, .int .i64 2, .int .i64 3, .slice (some ⟨w10.heap.size, 0, none⟩) 2 2, .int .i64 3, .int .i64 7, .slice (some ⟨w11.heap.size, 0, none⟩) 2 2] 64)
 have hJ := LvAt.three (Blk.new w12 64 #[.int .i64 1, .int .i64 5, .slice (some ⟨w9.heap.size, 0, none⟩) 2 2, .int .i64 2, .int .i64 3, .slice (some ⟨w10.heap.size, 0, none⟩) 2 2, .int .i64 3, .int .i64 7, .slice (some ⟨w11.heap.size, 0, none⟩) 2 2]) (HX1.out.below kx) (HX2.out.below kx) (HX3.out.below kx)
 have HC := Lib.hid (told_any (some ⟨w12.heap.size, 0, none⟩) 3 2 3 exO (w12.alloc (.cells #[.int .i64 1, .int .i64 5, .slice (some ⟨w9.heap.size, 0, none⟩) 2 2, .int .i64 2, .int .i64 3, .slice (some ⟨w10.heap.size, 0, none⟩) 2 2, .int .i64 3, .int .i64 7, .slice (some ⟨w11.heap.size, 0, none⟩) 2 2] 64)) hJ (by omega) (by omega))
 clear hJ kx
 go_wp2_with fail
 refine HC.out.mono ?_
 rintro e w13 ⟨B9, d9, rfl, hM, hb⟩
 have HL := Lib.hid (show Below w12.heap.size w12 w13 from ((Below.refl _ _).alloc (Nat.le_refl _) _).trans (hb.mono (by simp)))
 have HKw13 := Lib.hid (HKw12.out.trans (HL.out.mono HKw12.out.size))
 have HM := Lib.hid hM
 clear hM
 have HLO := Lib.hid (HLO.out.below HL.out)
 have HLB := Lib.hid (HLB.out.below HL.out)
 have HT := Lib.hid (HT.out.below HL.out)
 have HX1 := Lib.hid (HX1.out.below HL.out)
 have HX2 := Lib.hid (HX2.out.below HL.out)
 have HX3 := Lib.hid (HX3.out.below HL.out)
 clear hb HC HL
 have HC := Lib.hid (same24_yes T1 B9 3 2 t1 d9 exO w13 HT.out HM.out (by omega) (by omega))
 clear HM
 go_wp2_with fail
 refine HC.out.mono ?_
 rintro e w14 ⟨rfl, hb⟩
 have HL := Lib.hid (show Below w13.heap.size w13 w14 from hb)
 have HKw14 := Lib.hid (HKw13.out.trans (HL.out.mono HKw13.out.size))
 have HLO := Lib.hid (HLO.out.below HL.out)
 have HLB := Lib.hid (HLB.out.below HL.out)
 have HT := Lib.hid (HT.out.below HL.out)
 have HX1 := Lib.hid (HX1.out.below HL.out)
 have HX2 := Lib.hid (HX2.out.below HL.out)
 have HX3 := Lib.hid (HX3.out.below HL.out)
 clear hb HC HL
 clear HT HX1 HX2 HX3
 have hI := IsAt.lit (xs := [5, 5]) (n := 2) (Blk.new w14 2 #[.int .i64 5, .int .i64 5]) rfl rfl
 have HC := Lib.hid (shares_yes true (some ⟨mg, 0, none⟩) (some ⟨w14.heap.size, 0, none⟩) 3 2 cap 2 exO 10 17 (w14.alloc (.cells #[.int .i64 5, .int .i64 5] 2)) (HLO.out.below ((Kp.refl w14).alloc _)) HVO.out (by omega) (by rw [exO_tot]; omega) (by omega) (by rw [exO_s10]; exact hI) exO_c10.symm (by unfold Fits; omega) (by rw [exO_s10]; simp [Fits]))
 clear hI
 go_wp2_with fail
 refine HC.out.mono ?_
 rintro e w15 ⟨rfl, hb⟩
 have HL := Lib.hid (show Below w14.heap.size w14 w15 from ((Below.refl _ _).alloc (Nat.le_refl _) _).trans (hb.mono (by simp)))
 have HKw15 := Lib.hid (HKw14.out.trans (HL.out.mono HKw14.out.size))
 have HLO := Lib.hid (HLO.out.below HL.out)
 have HLB := Lib.hid (HLB.out.below HL.out)
 clear hb HC HL
 have hI := IsAt.lit (xs := [6, 6]) (n := 2) (Blk.new w15 2 #[.int .i64 6, .int .i64 6]) rfl rfl
 have HC := Lib.hid (shares_yes true (some ⟨mg, 0, none⟩) (some ⟨w15.heap.size, 0, none⟩) 3 2 cap 2 exO 12 23 (w15.alloc (.cells #[.int .i64 6, .int .i64 6] 2)) (HLO.out.below ((Kp.refl w15).alloc _)) HVO.out (by omega) (by rw [exO_tot]; omega) (by omega) (by rw [exO_s12]; exact hI) exO_c12.symm (by unfold Fits; omega) (by rw [exO_s12]; simp [Fits]))
 clear hI
 go_wp2_with fail
 refine HC.out.mono ?_
 rintro e w16 ⟨rfl, hb⟩
 have HL := Lib.hid (show Below w15.heap.size w15 w16 from ((Below.refl _ _).alloc (Nat.le_refl _) _).trans (hb.mono (by simp)))
 have HKw16 := Lib.hid (HKw15.out.trans (HL.out.mono HKw15.out.size))
 have HLO := Lib.hid (HLO.out.below HL.out)
 have HLB := Lib.hid (HLB.out.below HL.out)
 clear hb HC HL
 have HC := Lib.hid (told_any (some ⟨mh, 0, none⟩) 2 2 cbp exB w16 HLB.out (by omega) (by omega))
 go_wp2_with fail
 refine HC.out.mono ?_
 rintro e w17 ⟨T2, t2, rfl, hM, hb⟩
 have HL := Lib.hid (show Below w16.heap.size w16 w17 from hb)
 have HKw17 := Lib.hid (HKw16.out.trans (HL.out.mono HKw16.out.size))
 have HT := Lib.hid hM
 clear hM
 have HLO := Lib.hid (HLO.out.below HL.out)
 have HLB := Lib.hid (HLB.out.below HL.out)
 clear hb HC HL
 have hI := IsAt.lit (xs := [4, 3]) (n := 2) (Blk.new w17 2 #[.int .i64 4, .int .i64 3]) rfl rfl
 have HC := Lib.hid (level_any 9 7 (some ⟨w17.heap.size, 0, none⟩) 2 2 (w17.alloc (.cells #[.int .i64 4, .int .i64 3] 2)))
 have HI := Lib.hid hI
 clear hI
 go_wp2_with fail
 refine HC.out.mono ?_
 rintro e w18 ⟨rfl, hb⟩
 have HL := Lib.hid (show Below w17.heap.size w17 w18 from ((Below.refl _ _).alloc (Nat.le_refl _) _).trans (hb.mono (by simp)))
 have HKw18 := Lib.hid (HKw17.out.trans (HL.out.mono HKw17.out.size))
 have HX1 := Lib.hid (HI.out.below hb)
 have HLO := Lib.hid (HLO.out.below HL.out)
 have HLB := Lib.hid (HLB.out.below HL.out)
 have HT := Lib.hid (HT.out.below HL.out)
 clear hb HC HL
 clear HI
 have hI := IsAt.lit (xs := [4, 0]) (n := 2) (Blk.new w18 2 #[.int .i64 4, .int .i64 0]) rfl rfl
 have HC := Lib.hid (level_any 2 4 (some ⟨w18.heap.size, 0, none⟩) 2 2 (w18.alloc (.cells #[.int .i64 4, .int .i64 0] 2)))
 have HI := Lib.hid hI
 clear hI
 go_wp2_with fail
 refine HC.out.mono ?_
 rintro e w19 ⟨rfl, hb⟩
 have HL := Lib.hid (show Below w18.heap.size w18 w19 from ((Below.refl _ _).alloc (Nat.le_refl _) _).trans (hb.mono (by simp)))
 have HKw19 := Lib.hid (HKw18.out.trans (HL.out.mono HKw18.out.size))
 have HX2 := Lib.hid (HI.out.below hb)
 have HLO := Lib.hid (HLO.out.below HL.out)
 have HLB := Lib.hid (HLB.out.below HL.out)
 have HT := Lib.hid (HT.out.below HL.out)
 have HX1 := Lib.hid (HX1.out.below HL.out)
 clear hb HC HL
 clear HI
 have kx := (Kp.refl w19).alloc (.cells #[.int .i64 9, .int .i64 7, .slice (some ⟨w17.heap.size, 0, none⟩) 2 2, .int .i64 2, .int .i64 4, .slice (some ⟨w18.heap.size, 0, none⟩) 2 2] 64)
 have hJ := LvAt.two (Blk.new w19 64 #[.int .i64 9, .int .i64 7, .slice (some ⟨w17.heap.size, 0, none⟩) 2 2, .int .i64 2, .int .i64 4, .slice (some ⟨w18.heap.size, 0, none⟩) 2 2]) (HX1.out.below kx) (HX2.out.below kx)
 have HC := Lib.hid (told_any (some ⟨w19.heap.size, 0, none⟩) 2 2 2 exB (w19.alloc (.cells #[.int .i64 9, .int .i64 7, .slice (some ⟨w17.heap.size, 0, none⟩) 2 2, .int .i64 2, .int .i64 4, .slice (some ⟨w18.heap.size, 0, none⟩) 2 2] 64)) hJ (by omega) (by omega))
 clear hJ kx
 go_wp2_with fail
 refine HC.out.mono ?_
 rintro e w20 ⟨B9, d9, rfl, hM, hb⟩
 have HL := Lib.hid (show Below w19.heap.size w19 w20 from ((Below.refl _ _).alloc (Nat.le_refl _) _).trans (hb.mono (by simp)))
 have HKw20 := Lib.hid (HKw19.out.trans (HL.out.mono HKw19.out.size))
 have HM := Lib.hid hM
 clear hM
 have HLO := Lib.hid (HLO.out.below HL.out)
 have HLB := Lib.hid (HLB.out.below HL.out)
 have HT := Lib.hid (HT.out.below HL.out)
 have HX1 := Lib.hid (HX1.out.below HL.out)
 have HX2 := Lib.hid (HX2.out.below HL.out)
 clear hb HC HL
 have HC := Lib.hid (same24_yes T2 B9 2 2 t2 d9 exB w20 HT.out HM.out (by omega) (by omega))
 clear HM
 go_wp2_with fail
 refine HC.out.mono ?_
 rintro e w21 ⟨rfl, hb⟩
 have HL := Lib.hid (show Below w20.heap.size w20 w21 from hb)
 have HKw21 := Lib.hid (HKw20.out.trans (HL.out.mono HKw20.out.size))
 have HLO := Lib.hid (HLO.out.below HL.out)
 have HLB := Lib.hid (HLB.out.below HL.out)
 have HT := Lib.hid (HT.out.below HL.out)
 have HX1 := Lib.hid (HX1.out.below HL.out)
 have HX2 := Lib.hid (HX2.out.below HL.out)
 clear hb HC HL
 clear HT HX1 HX2
 have hI := IsAt.lit (xs := [2, 3]) (n := 2) (Blk.new w21 2 #[.int .i64 2, .int .i64 3]) rfl rfl
 have HC := Lib.hid (shares_yes false (some ⟨mh, 0, none⟩) (some ⟨w21.heap.size, 0, none⟩) 2 2 cbp 2 exB 5 45 (w21.alloc (.cells #[.int .i64 2, .int .i64 3] 2)) (HLB.out.below ((Kp.refl w21).alloc _)) HVB.out (by omega) (by rw [exB_tot]; omega) (by omega) (by rw [exB_s5]; exact hI) exB_c5.symm (by unfold Fits; omega) (by rw [exB_s5]; simp [Fits]))
 clear hI
 go_wp2_with fail
 refine HC.out.mono ?_
 rintro e w22 ⟨rfl, hb⟩
 have HL := Lib.hid (show Below w21.heap.size w21 w22 from ((Below.refl _ _).alloc (Nat.le_refl _) _).trans (hb.mono (by simp)))
 have HKw22 := Lib.hid (HKw21.out.trans (HL.out.mono HKw21.out.size))
 have HLO := Lib.hid (HLO.out.below HL.out)
 have HLB := Lib.hid (HLB.out.below HL.out)
 clear hb HC HL
 go_wp2
 go_ret
 exact ⟨rfl, HKw22.out⟩

end Go.Proofs.YtjajigkacccdgaaGreat

namespace Go.Proofs.YtjajigkacccdgaaGreat
set_option linter.unusedVariables false
set_option linter.unusedSimpArgs false
open Go.RowKit
open Wd
attribute [local go_sem ↓] Go.wp_at_zero Go.wp_at_succ






end Go.Proofs.YtjajigkacccdgaaGreat
namespace Go.Proofs.YtjajigkacccdgaaGreat
set_option linter.unusedVariables false
set_option linter.unusedSimpArgs false
open Go.RowKit
open Wd






theorem CQ.wq {base : Nat} {w : World} {q : Rat} {A A' : Option Addr} {k c k' c' : Nat} (h : CQ base w q A k c A' k' c') : WQ w q A k c A' k' c' := ⟨h.1, h.2.1, h.2.2.1, h.2.2.2.1⟩

end Go.Proofs.YtjajigkacccdgaaGreat
namespace Go.Proofs.YtjajigkacccdgaaGreat
set_option linter.unusedVariables false
set_option linter.unusedSimpArgs false
open Go.Shelf Go.RowKit Go.Lib Go.Sort
open Wd








end Go.Proofs.YtjajigkacccdgaaGreat