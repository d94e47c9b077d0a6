/-
spoil of layer 24's statements: levels of results are overwritten; the program's merges with what of their results is new. The references of layers 1 and 2: Int, Same, Is. No statement of the seat is proved here; no conditions beyond those of each theorem.
-/
import Derived.Test.YtjajigkacccdgaaGreatTaBL
import Derived.Test.YtjajigkacccdgaaGreatTaBO
import Derived.Test.YtjajigkacccdgaaGreatTaBF
namespace Go.Proofs.YtjajigkacccdgaaGreat
set_option linter.unusedVariables false
set_option linter.unusedSimpArgs false
open Go.RowKit
open Wd

/-- Only blocks from base to top may have turned. -/
def Sx (base top : Nat) (w w' : World) : Prop := Below base w w' ∧ w'.heap.size = w.heap.size ∧ ∀ k, top ≤ k → w'.heap[k]? = w.heap[k]?
theorem Sx.refl (base top : Nat) (w : World) : Sx base top w w := ⟨Below.refl _ _, rfl, fun _ _ => rfl⟩
theorem Sx.set {base top : Nat} {w w' : World} (h : Sx base top w w') {p : Addr} (h1 : base ≤ p.block) (h2 : p.block < top) (v : Value) : Sx base top w (w'.setCell p v) :=
 ⟨h.1.setCell h1 v, (World.size_setCell ..).trans h.2.1, fun k hk => (Below.heap_setCell _ _ _ _ (by omega)).trans (h.2.2 k hk)⟩
/-- A row of levels whose parts may be overwritten. -/
def LvF (base top : Nat) (w : World) (g m : Nat) : Prop :=
 g < w.heap.size ∧ (∀ x, x < m * 3 → (∃ v, w.cell? ⟨g, x, none⟩ = some v) ∧ w.frozen? ⟨g, x, none⟩ = false) ∧
  ∀ j, j < m → ∃ A k c, w.cell? ⟨g, j * 3 + 2, none⟩ = some (.slice A k c) ∧ Wr base g w A k ∧ ∀ b o, A = some ⟨b, o, none⟩ → k ≠ 0 → b < top
theorem LvF.below {base top g m : Nat} {w w' : World} (h : LvF base top w g m) (hb : Below w.heap.size w w') : LvF base top w' g m := by
 refine ⟨Nat.lt_of_lt_of_le h.1 hb.size, fun x hx => ?_, fun j hj => ?_⟩
 ·obtain ⟨⟨v, h1⟩, h2⟩ := h.2.1 x hx
  exact ⟨⟨v, (hb.cell (p := ⟨g, x, none⟩) h.1).trans h1⟩, (hb.frozen (p := ⟨g, x, none⟩) h.1).trans h2⟩
 ·obtain ⟨A, k, c, h1, h2, h3⟩ := h.2.2 j hj
  exact ⟨A, k, c, (hb.cell (p := ⟨g, _, none⟩) h.1).trans h1, h2.below hb, h3⟩
theorem LvF.set {base top g m b o : Nat} {w : World} {v : Value} (h : LvF base top w g m) (hne : b ≠ g) : LvF base top (w.setCell ⟨b, o, none⟩ v) g m := by
 refine ⟨by simpa [World.setCell] using h.1, fun x hx => ?_, fun j hj => ?_⟩
 ·obtain ⟨⟨u, h1⟩, h2⟩ := h.2.1 x hx
  exact ⟨⟨u, (World.cell?_setCell_far _ _ _ _ hne).trans h1⟩, by rw [World.frozen?_setCell]; exact h2⟩
 ·obtain ⟨A, k, c, h1, h2, h3⟩ := h.2.2 j hj
  exact ⟨A, k, c, (World.cell?_setCell_far _ _ _ _ hne).trans h1, h2.set _ _, h3⟩
/-- Three cells of a level, anew. -/
def lst (w : World) (g o : Nat) (a b : Int) : World := ((w.setCell ⟨g, o, none⟩ (.int .i64 a)).setCell ⟨g, o + 1, none⟩ (.int .i64 b)).setCell ⟨g, o + 2, none⟩ (.slice none 0 0)
theorem LvF.lst {base top g m i : Nat} {w : World} {a b : Int} (h : LvF base top w g m) (hi : i < m) : LvF base top (lst w g (i * 3) a b) g m := by
 have ne : ∀ x y, x ≠ y → (⟨g, x, none⟩ : Addr) ≠ ⟨g, y, none⟩ := fun x y hxy e => hxy (by injection e)
 unfold Go.Proofs.YtjajigkacccdgaaGreat.lst
 refine ⟨by simpa [World.setCell] using h.1, fun x hx => ?_, fun j hj => ?_⟩
 ·obtain ⟨⟨u, h1⟩, h2⟩ := h.2.1 x hx
  refine ⟨?_, by simp only [World.frozen?_setCell]; exact h2⟩
  obtain ⟨u1, e1⟩ : ∃ u1, (w.setCell ⟨g, i * 3, none⟩ (.int .i64 a)).cell? ⟨g, x, none⟩ = some u1 := cell?_setCell_some h1
  obtain ⟨u2, e2⟩ : ∃ u2, ((w.setCell ⟨g, i * 3, none⟩ (.int .i64 a)).setCell ⟨g, i * 3 + 1, none⟩ (.int .i64 b)).cell? ⟨g, x, none⟩ = some u2 := cell?_setCell_some e1
  exact cell?_setCell_some e2
 ·by_cases hji : j = i
  ·subst hji
   refine ⟨none, 0, 0, ?_, Wr.nil, fun b o he => by cases he⟩
   obtain ⟨⟨u, h1⟩, h2⟩ := h.2.1 (j * 3 + 2) (by omega)
   obtain ⟨u1, e1⟩ : ∃ u1, (w.setCell ⟨g, j * 3, none⟩ (.int .i64 a)).cell? ⟨g, j * 3 + 2, none⟩ = some u1 := cell?_setCell_some h1
   obtain ⟨u2, e2⟩ : ∃ u2, ((w.setCell ⟨g, j * 3, none⟩ (.int .i64 a)).setCell ⟨g, j * 3 + 1, none⟩ (.int .i64 b)).cell? ⟨g, j * 3 + 2, none⟩ = some u2 := cell?_setCell_some e1
   exact World.cell?_setCell_same _ _ _ (by rw [e2])
  ·obtain ⟨A, k, c, h1, h2, h3⟩ := h.2.2 j hj
   refine ⟨A, k, c, ?_, ((h2.set _ _).set _ _).set _ _, h3⟩
   rw [World.cell?_setCell_other _ _ _ _ (ne _ _ (by omega)), World.cell?_setCell_other _ _ _ _ (ne _ _ (by omega)), World.cell?_setCell_other _ _ _ _ (ne _ _ (by omega))]
   exact h1
theorem Sx.lst {base top g o : Nat} {a b : Int} {w w' : World} (h : Sx base top w w') (h1 : base ≤ g) (h2 : g < top) : Sx base top w (lst w' g o a b) :=
 ((h.set (p := ⟨g, o, none⟩) h1 h2 _).set (p := ⟨g, o + 1, none⟩) h1 h2 _).set (p := ⟨g, o + 2, none⟩) h1 h2 _

set_option maxRecDepth 100000 in
set_option maxHeartbeats 4000000 in
theorem spoil24_any (base top g m c0 : Nat) (w : World) (h : LvF base top w g m) (hg : base ≤ g) (hgt : g < top) (hm : m ≤ 1000000) :
  Calls Tryz.prog 21 #[.slice (some ⟨g, 0, none⟩) m c0] w fun e w' => e = .returned (.tuple #[]) ∧ Sx base top w w' := by
 have HR := Lib.hid h
 clear h
 go_enter Tryz.func21, Tryz.ntmps21
 go_wp2_with fail
 go_loopw [2] (fun t wr => ∃ i : Nat, i ≤ m ∧ t = .int .i64 (i : Int) ∧ Hid (Sx base top w wr ∧ LvF base top wr g m)) (fun t _ => m - (intOf t).toNat)
 case atStart => exact ⟨0, Nat.zero_le _, rfl, Lib.hid ⟨Sx.refl _ _ _, HR.out⟩⟩
 case round =>
  obtain ⟨i, hi, rfl, hX⟩ := hrel
  by_cases hlt : i < m
  ·obtain ⟨A, k, c, x3, x4, x5⟩ := hX.out.2.2.2 i hlt
   have hki1 : (0 : Int) ≤ (i : Int) := by omega
   have hki2 : (i : Int) < (m : Int) := by omega
   have HS := Lib.hid (show (Sx base top w wr ∧ LvF base top wr g m) ∧ wr.cell? ⟨g, i * 3 + 2, none⟩ = some (.slice A k c) ∧ Wr base g wr A k from ⟨hX.out, x3, x4⟩)
   have HT := Lib.hid x5
   clear hX x3 x4 x5 HR
   go_wp2_with fail
   go_loopw [3] (fun t wv => ∃ j : Nat, j ≤ k ∧ t = .int .i64 (j : Int) ∧ Hid ((Sx base top w wv ∧ LvF base top wv g m) ∧ wv.cell? ⟨g, i * 3 + 2, none⟩ = some (.slice A k c) ∧ Wr base g wv A k)) (fun t _ => k - (intOf t).toNat)
   case atStart => exact ⟨0, Nat.zero_le _, rfl, HS⟩
   case round =>
    clear HS
    obtain ⟨j, hj, rfl, hY⟩ := hrel
    have hY' := hY.out
    obtain ⟨⟨y1, y2⟩, y3, y4⟩ := hY.out
    have hk9 : k ≤ 1000000000000 := y4.1
    by_cases hjk : j < k
    ·obtain ⟨b9, o9, rfl, hb1, hb2, hb3, hb4⟩ := y4.2 (by omega)
     obtain ⟨⟨v9, hv9⟩, hfz⟩ := hb4 j hjk
     have hbt := HT.out _ _ rfl (by omega)
     have hj1 : (0 : Int) ≤ (j : Int) := by omega
     have hj2 : (j : Int) < (k : Int) := by omega
     have HN := Lib.hid (show (Sx base top w (wr.setCell ⟨b9, o9 + j, none⟩ (.int .i64 (-1))) ∧ LvF base top (wr.setCell ⟨b9, o9 + j, none⟩ (.int .i64 (-1))) g m) ∧ (wr.setCell ⟨b9, o9 + j, none⟩ (.int .i64 (-1))).cell? ⟨g, i * 3 + 2, none⟩ = some (.slice (some ⟨b9, o9, none⟩) k c) ∧ Wr base g (wr.setCell ⟨b9, o9 + j, none⟩ (.int .i64 (-1))) (some ⟨b9, o9, none⟩) k from
      ⟨⟨y1.set (p := ⟨b9, o9 + j, none⟩) hb1 hbt _, y2.set hb2⟩, (World.cell?_setCell_far _ _ _ _ hb2).trans y3, y4.set _ _⟩)
     clear hY hY' y1 y2 y4 hb1 hb2 hb3 hb4
     go_wp2
     go_roundw
     case rel => exact ⟨j + 1, by omega, by first | rfl | go_num, HN⟩
     case measure => simp [intOf]; omega
    ·obtain rfl : k = j := by omega
     obtain ⟨⟨v0, e0⟩, f0⟩ := y2.2.1 (i * 3) (by omega)
     obtain ⟨⟨v1, e1⟩, f1⟩ := y2.2.1 (i * 3 + 1) (by omega)
     obtain ⟨⟨v2, e2⟩, f2⟩ := y2.2.1 (i * 3 + 2) (by omega)
     have HF := Lib.hid (show Sx base top w (lst wr g (i * 3) (-7) 0) ∧ LvF base top (lst wr g (i * 3) (-7) 0) g m from ⟨y1.lst hg hgt, y2.lst hlt⟩)
     unfold lst at HF
     clear hY hY' y1 y2 y4
     clear e2
     go_wp2_with fail
     go_roundw
     case rel => exact ⟨i + 1, by omega, by first | rfl | go_num, HF⟩
     case measure => simp [intOf]; omega
  ·obtain rfl : i = m := by omega
   have HF := Lib.hid hX.out.1
   clear hX HR
   go_wp2
   refine bodyPost_end (v := .tuple #[]) ?_ rfl ⟨rfl, HF.out⟩
   simp [results, Tryz.results21]

/-- What the program's merges return. -/
def MgY (up : Bool) (n : Nat) (ls : List (List (Int × Int))) (w : World) (e : Ending) (w' : World) : Prop :=
 ∃ (A : Option Addr) (m cap : Nat) (lv : List St.Lv), e = .returned (.tuple #[.slice A m cap, .int .i64 (ckC up ls).1, .int .i64 (ckC up ls).2]) ∧ LvAt w' A m n lv ∧ m ≤ 48 ∧ ((ckC up ls).2 = 0 → St.IsLv up n (St.tri 0 ls) lv ∧ VL up n lv) ∧ ((ckC up ls).2 ≠ 0 → lv = []) ∧ (m ≠ 0 → ∃ g, A = some ⟨g, 0, none⟩ ∧ w.heap.size ≤ g ∧ LvF w.heap.size w'.heap.size w' g m) ∧ Below w.heap.size w w'
theorem LvO.fresh {base n : Nat} {w : World} {mg : Nat} {T : List St.Tr} {D : List (Int × Nat)} (h : LvO base n w mg T D) (hn : n ≤ 16) : LvF base w.heap.size w mg D.length := by
 obtain ⟨h1, h2, h3, h4, h5⟩ := h
 refine ⟨h2, fun x hx => ?_, fun j hj => ?_⟩
 ·have := h3.cell (i := x / 3) (c := x % 3) (by simp; omega) (by omega)
  rw [Nat.zero_add, show x / 3 * 3 + x % 3 = x by omega] at this
  exact ⟨⟨_, this.1⟩, this.2⟩
 ·have hd : D[j]?.getD (0, 0) ∈ D := getD_mem hj
  obtain ⟨q1, q2, q3⟩ := h4 _ hd
  have eg : D.toArray[j]! = D[j]?.getD (0, 0) := by simp [hj, List.getElem?_eq_getElem hj]
  have c2 := (h3.cell (i := j) (c := 2) (by simpa using hj) (by omega)).1
  rw [eg, Nat.zero_add] at c2
  refine ⟨some ⟨(D[j]?.getD (0, 0)).2, 0, none⟩, n, n, c2, ⟨by omega, fun hn0 => ⟨_, 0, rfl, q1, q2, q3.lt, fun x hx => ?_⟩⟩, fun b o he hk => ?_⟩
  ·rw [Nat.zero_add]
   exact ⟨⟨_, q3.cell (by rw [St.parts_len]; exact hx)⟩, Blk.frozen q3 x⟩
  ·cases he
   exact q3.lt

theorem merge_offers_y (A : Option Addr) (n c : Nat) (ls : List (List (Int × Int))) (w : World) (h : CsAt w A n ls) (hs : ∀ l ∈ ls, l.length ≤ 1000000000000) :
  Calls Tryz.prog 16 #[.slice A n c] w (MgY true n ls w) := by
 by_cases hc : (ckC true ls).2 = 0
 ·refine (merge_offers_ok A n c ls w h hs hc).mono ?_
  rintro e w' ⟨D, mg, cap, rfl, h1, h2, h3, h4⟩
  have hn := h.1
  subst hn
  have hv := lv_valid hc (lvOf_is h1 h2)
  have hl : (lvOf ls.length (St.tri 0 ls) D).length = D.length := by simp [lvOf]
  exact ⟨some ⟨mg, 0, none⟩, D.length, cap, lvOf ls.length (St.tri 0 ls) D, by rw [hc, ckC_place hc], h3.at, by have := hv.len; omega, fun _ => ⟨lvOf_is h1 h2, hv⟩, fun h0 => absurd hc h0, fun _ => ⟨mg, rfl, h3.1, h3.fresh (ckC_good hc).1⟩, h4⟩
 ·refine (merge_offers_no A n c ls w h hs hc).mono ?_
  rintro e w' ⟨rfl, h4⟩
  exact ⟨none, 0, 0, [], rfl, ⟨rfl, fun h0 => absurd rfl h0⟩, by decide, fun h0 => absurd h0 hc, fun _ => rfl, fun h0 => absurd rfl h0, h4⟩

theorem merge_bids_y (A : Option Addr) (n c : Nat) (ls : List (List (Int × Int))) (w : World) (h : CsAt w A n ls) (hs : ∀ l ∈ ls, l.length ≤ 1000000000000) :
  Calls Tryz.prog 17 #[.slice A n c] w (MgY false n ls w) := by
 by_cases hc : (ckC false ls).2 = 0
 ·refine (merge_bids_ok A n c ls w h hs hc).mono ?_
  rintro e w' ⟨D, mg, cap, rfl, h1, h2, h3, h4⟩
  have hn := h.1
  subst hn
  have hv := lv_valid hc (lvOf_is h1 h2)
  have hl : (lvOf ls.length (St.tri 0 ls) D).length = D.length := by simp [lvOf]
  exact ⟨some ⟨mg, 0, none⟩, D.length, cap, lvOf ls.length (St.tri 0 ls) D, by rw [hc, ckC_place hc], h3.at, by have := hv.len; omega, fun _ => ⟨lvOf_is h1 h2, hv⟩, fun h0 => absurd hc h0, fun _ => ⟨mg, rfl, h3.1, h3.fresh (ckC_good hc).1⟩, h4⟩
 ·refine (merge_bids_no A n c ls w h hs hc).mono ?_
  rintro e w' ⟨rfl, h4⟩
  exact ⟨none, 0, 0, [], rfl, ⟨rfl, fun h0 => absurd rfl h0⟩, by decide, fun h0 => absurd h0 hc, fun _ => rfl, fun h0 => absurd rfl h0, h4⟩

end Go.Proofs.YtjajigkacccdgaaGreat

namespace Go.Proofs.YtjajigkacccdgaaGreat
set_option linter.unusedVariables false
set_option linter.unusedSimpArgs false
open Go.RowKit
open Wd

set_option maxHeartbeats 1000000 in
theorem rint_any (z : Int) (w : World) (h1 : -9223372036854775808 ≤ z) (h2 : z ≤ 9223372036854775807) :
  Calls Tryz.prog 37 #[.int .i64 z] w (RetQ w (z : Rat)) := by
 have T := Lib.hid (fun W => rfrom_any z W h1 h2)
 have en : ((z : Int) : Rat).num = z := Rat.num_intCast z
 have ed : ((z : Int) : Rat).den = 1 := Rat.den_intCast z
 rw [← en] at T
 rw [en] at T
 generalize ((z : Int) : Rat) = q at *
 have ED := Lib.hid ed
 have EN := Lib.hid en
 clear ed en h1 h2
 go_enter Tryz.func37, Tryz.ntmps37
 go_wp2_with fail
 obtain ⟨hB0, hBW, hsz⟩ := pre1 w 42 #[.bool false, .slice none 0 0, .bool false, .slice none 0 0]
 generalize w.alloc (.cells #[.bool false, .slice none 0 0, .bool false, .slice none 0 0] 42) = W at *
 have HSZ := Lib.hid hsz
 clear hsz
 refine (T.out W).mono ?_
 rw [← EN.out]
 rintro e w3 ⟨A3, k3, c3, rfl, hk3, hW3, hF3, hb3⟩
 have hr3 := (RS4.start hB0).call hb3
 obtain ⟨_, _, _, _, c0, c1, c2, c4, f0, f1, f2, f3⟩ := hr3.four
 have hW4 : Wat w3 none 0 (denW q.den) := by rw [ED.out]; exact Wat.nil
 have hF4 : Fresh W.heap.size w3 none 0 := Fresh.nil
 have hfin := retQ_close (c' := 0) hBW (Nat.le_refl _) (by have := HSZ.out; omega) hr3 hk3 (Nat.le_refl 0) hW3 hW4 hF3 hF4
 obtain ⟨d0, d1, d2, d3, -, -, -, -⟩ := (hr3.done (.bool (decide (q.num < 0))) (.slice A3 k3 c3) (.bool false) (.slice none 0 0)).four
 have HF := Lib.hid hfin
 clear hfin hB0 hr3 hW3 hF3 hW4 hF4 hb3
 go_wp2
 refine bodyPost_ret (v := .agg #[.bool (decide (q.num < 0)), .slice A3 k3 c3, .bool false, .slice none 0 0]) ?_ rfl HF.out
 simp [results, Tryz.results37, go_sem, d0, d1, d2, d3]


set_option maxRecDepth 100000 in
set_option maxHeartbeats 1000000 in
theorem rsame_yes (neg : Bool) (A A' : Option Addr) (n c c' : Nat) (l : List Nat) (w : World) (h : Wat w A n l) (h' : Wat w A' n l) (hm : n ≤ 1000000) :
  Calls Tryz.prog 86 #[.agg #[.bool neg, .slice A n c], .agg #[.bool neg, .slice A' n c']] w fun e w' => e = .returned (.bool true) ∧ Below w.heap.size w w' := by
 have HX := Lib.hid h
 have HY := Lib.hid h'
 have hne : ((n : Int) != (n : Int)) = false := by simp
 have hne2 : (!neg == neg) = false := by cases neg <;> rfl
 have hne3 : (neg != neg) = false := by cases neg <;> rfl
 clear h h'
 go_enter Tryz.func86, Tryz.ntmps86
 go_wp2_with fail
 obtain ⟨hB0, hB1, hBW, hsz⟩ := pre2 w 40 #[.bool neg, .slice A n c] 40 #[.bool neg, .slice A' n c']
 generalize (w.alloc (.cells #[.bool neg, .slice A n c] 40)).alloc (.cells #[.bool neg, .slice A' n c'] 40) = W at *
 have HSZ := Lib.hid hsz
 clear hsz
 have HB0 := Lib.hid hB0
 have HB1 := Lib.hid hB1
 have HBW := Lib.hid hBW
 clear hB0 hB1 hBW
 go_loopw [5] (fun t wr => ∃ k : Nat, k ≤ n ∧ t = .int .i64 k ∧ Hid (Below W.heap.size W wr)) (fun t _ => n - (intOf t).toNat)
 case atStart => exact ⟨0, Nat.zero_le _, rfl, Below.refl _ _⟩
 case round =>
  obtain ⟨k, hk, rfl, hB⟩ := hrel
  obtain ⟨a0, a1, -, -⟩ := (HB0.out.below hB.out HB0.out.lt).two
  obtain ⟨b0, b1, -, -⟩ := (HB1.out.below hB.out HB1.out.lt).two
  by_cases hlt : k < n
  ·obtain ⟨b, o, rfl, hb, hc⟩ := HX.out.2.2 (by omega)
   obtain ⟨b', o', rfl, hb', hc'⟩ := HY.out.2.2 (by omega)
   have c1 := ((HBW.out.trans (hB.out.mono HBW.out.size)).cell (p := ⟨b, o + k, none⟩) hb).trans (hc k hlt)
   have c2 := ((HBW.out.trans (hB.out.mono HBW.out.size)).cell (p := ⟨b', o' + k, none⟩) hb').trans (hc' k hlt)
   have hki1 : (0 : Int) ≤ (k : Int) := by omega
   have hki2 : (k : Int) < (n : Int) := by omega
   clear hc hc'
   have HBD := fun q => below_drewN hB.out q
   have HBD := Lib.hid HBD
   generalize ((l[k]?.getD 0 : Nat) : Int) = x at *
   have d1 : (x != x) = false := by simp
   clear hB
   go_wp2
   go_quiet (fail)
   go_wp2
   go_roundw
   case rel => exact ⟨k + 1, by omega, by go_num, HBD.out _⟩
   case measure => simp [intOf]; omega
  ·obtain rfl : k = n := by omega
   have hfin : Below w.heap.size w wr := HBW.out.trans (hB.out.mono HBW.out.size)
   have HF := Lib.hid hfin
   clear hfin
   go_wp2
   go_ret
   exact ⟨rfl, HF.out⟩

end Go.Proofs.YtjajigkacccdgaaGreat
