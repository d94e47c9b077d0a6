/-
Contracts of short and parts of package frac. No statement of the seat is proved here; no conditions beyond those of each theorem.
-/
import Derived.Test.YtjajigkacccdgaaGreatTdAF
namespace Go.Proofs.YtjajigkacccdgaaGreat
set_option linter.unusedVariables false
set_option linter.unusedSimpArgs false
open Go.RowKit
open Wd

/-- Numerator and positive denominator that two integers stand for. -/
def qnum (na da : Int) : Int := if da < 0 then -na else na
def qden (da : Int) : Int := if da = 0 then 1 else if da < 0 then -da else da
theorem qden_pos (da : Int) : 0 < qden da := by unfold qden; split <;> (try split) <;> omega
def Small (z : Int) : Prop := -2147483648 < z ∧ z < 2147483648

theorem int64_any (neg : Bool) (A : Option Addr) (n c : Nat) (l : List Nat) (w : World) (h : Wat w A n l) (hnc : n ≤ c) (hm : n ≤ 1000000000000) :
  Calls Tryz.prog 138 #[.agg #[.bool neg, .slice A n c]] w fun e w' => ∃ x b, e = .returned (.tuple #[.int .i64 x, .bool b]) ∧ (b = true → x = sg neg (val l) ∧ Fits (sg neg (val l))) ∧ (b = false → x = 0 ∧ ¬ Fits (sg neg (val l))) ∧ Below w.heap.size w w' := by
 by_cases hz : Fits (sg neg (val l))
 ·exact (int64_yes neg A n c l w h hnc hm hz).mono fun _ _ ⟨he, hb⟩ => ⟨_, _, he, fun _ => ⟨rfl, hz⟩, (fun hh => by cases hh), hb⟩
 ·exact (int64_no neg A n c l w h hnc hm hz).mono fun _ _ ⟨he, hb⟩ => ⟨_, _, he, (fun hh => by cases hh), fun _ => ⟨rfl, hz⟩, hb⟩

def ShortPost (w : World) (na da : Int) (e : Ending) (w' : World) : Prop :=
 ((Small na ∧ Small da ∧ e = .returned (.tuple #[.int .i64 (qnum na da), .int .i64 (qden da), .bool true])) ∨ (¬ (Small na ∧ Small da) ∧ e = .returned (.tuple #[.int .i64 0, .int .i64 0, .bool false]))) ∧ Below w.heap.size w w'

set_option maxRecDepth 100000 in
set_option maxHeartbeats 4000000 in
theorem short_any (neg neg' : Bool) (A A' : Option Addr) (n n' c c' : Nat) (l l' : List Nat) (w : World) (h : Wat w A n l) (h' : Wat w A' n' l') (hnc : n ≤ c) (hnc' : n' ≤ c') (hm : n ≤ 10000000000) (hm' : n' ≤ 10000000000) :
  Calls Tryz.prog 90 #[.agg #[.bool neg, .slice A n c, .bool neg', .slice A' n' c']] w (ShortPost w (sg neg (val l)) (sg neg' (val l'))) := by
 have T1 := fun W hW => int64_any neg A n c l W hW hnc (by omega)
 have T2 := fun W hW => int64_any neg' A' n' c' l' W hW hnc' (by omega)
 generalize sg neg (val l) = na at *
 generalize sg neg' (val l') = da at *
 have T1 := Lib.hid T1
 have T2 := Lib.hid T2
 go_enter Tryz.func90, Tryz.ntmps90
 go_wp2_with fail
 obtain ⟨hB0, hBW, hsz⟩ := pre1 w 42 #[.bool neg, .slice A n c, .bool neg', .slice A' n' c']
 generalize w.alloc (.cells #[.bool neg, .slice A n c, .bool neg', .slice A' n' c'] 42) = W at *
 have HSZ := Lib.hid hsz
 clear hsz
 refine (T1.out W (h.below hBW)).mono ?_
 rintro e w1 ⟨x, b1, rfl, hx1, hx2, hb1⟩
 have hB0 := hB0.below hb1 (by have := HSZ.out; omega)
 have hb1 : Below w.heap.size w w1 := hBW.trans (hb1.mono hBW.size)
 obtain ⟨c0, c1, c2, c3, -, -, -, -⟩ := hB0.four
 have HX1 := Lib.hid hx1
 have HX2 := Lib.hid hx2
 clear hBW HSZ hx1 hx2
 go_wp2_with fail
 refine (T2.out w1 (h'.below hb1)).mono ?_
 rintro e w2 ⟨y, b2, rfl, hy1, hy2, hb2⟩
 have hb2 : Below w.heap.size w w2 := hb1.trans (hb2.mono hb1.size)
 have HY1 := Lib.hid hy1
 have HY2 := Lib.hid hy2
 clear hy1 hy2 hb1 T1 T2 hB0 c0 c1 c2 c3
 cases b1
 ·have hns : ¬ (Small na ∧ Small da) := fun hh => (HX2.out rfl).2 (by unfold Small at hh; unfold Fits; omega)
  have HNS := Lib.hid hns
  clear hns
  cases b2
  all_goals
   go_wp2
   go_ret3
   exact ⟨.inr ⟨HNS.out, rfl⟩, hb2⟩
 ·obtain ⟨rfl, hfx⟩ := HX1.out rfl
  cases b2
  ·have hns : ¬ (Small x ∧ Small da) := fun hh => (HY2.out rfl).2 (by unfold Small at hh; unfold Fits; omega)
   have HNS := Lib.hid hns
   have HFX := Lib.hid hfx
   clear hns hfx
   go_wp2
   go_ret3
   exact ⟨.inr ⟨HNS.out, rfl⟩, hb2⟩
  ·obtain ⟨rfl, hfy⟩ := HY1.out rfl
   have HFX := Lib.hid hfx
   have HFY := Lib.hid hfy
   clear hfx hfy HX1 HX2 HY1 HY2
   by_cases hs : Small x ∧ Small y
   ·obtain ⟨⟨h1, h2⟩, h3, h4⟩ := hs
    rcases Int.lt_trichotomy y 0 with hy | hy | hy
    ·have e1 : qnum x y = -x := by unfold qnum; rw [if_pos hy]
     have e2 : qden y = -y := by unfold qden; rw [if_neg (by omega), if_pos hy]
     have hfin : ShortPost w x y (.returned (.tuple #[.int .i64 (-x), .int .i64 (-y), .bool true])) w2 := ⟨.inl ⟨⟨h1, h2⟩, ⟨h3, h4⟩, by rw [e1, e2]⟩, hb2⟩
     have HF := Lib.hid hfin
     have hy0 : (y == 0) = false := by simp; omega
     clear hfin e1 e2
     go_wp2
     go_ret3
     exact HF.out
    ·subst hy
     have e1 : qnum x 0 = x := by unfold qnum; rw [if_neg (by omega)]
     have hfin : ShortPost w x 0 (.returned (.tuple #[.int .i64 x, .int .i64 1, .bool true])) w2 := ⟨.inl ⟨⟨h1, h2⟩, ⟨h3, h4⟩, by rw [e1]; rfl⟩, hb2⟩
     have HF := Lib.hid hfin
     clear hfin e1
     go_wp2
     go_ret3
     exact HF.out
    ·have e1 : qnum x y = x := by unfold qnum; rw [if_neg (by omega)]
     have e2 : qden y = y := by unfold qden; rw [if_neg (by omega), if_neg (by omega)]
     have hfin : ShortPost w x y (.returned (.tuple #[.int .i64 x, .int .i64 y, .bool true])) w2 := ⟨.inl ⟨⟨h1, h2⟩, ⟨h3, h4⟩, by rw [e1, e2]⟩, hb2⟩
     have HF := Lib.hid hfin
     have hy0 : (y == 0) = false := by simp; omega
     clear hfin e1 e2
     go_wp2
     go_ret3
     exact HF.out
   ·have HNS := Lib.hid hs
    have hc : x ≤ -2147483648 ∨ (-2147483648 < x ∧ 2147483648 ≤ x) ∨ (-2147483648 < x ∧ x < 2147483648 ∧ y ≤ -2147483648) ∨ (-2147483648 < x ∧ x < 2147483648 ∧ -2147483648 < y ∧ 2147483648 ≤ y) := by
     unfold Small at hs; omega
    clear hs
    rcases hc with g1 | ⟨g1, g2⟩ | ⟨g1, g2, g3⟩ | ⟨g1, g2, g3, g4⟩
    all_goals
     go_wp2
     go_ret3
     exact ⟨.inr ⟨HNS.out, rfl⟩, hb2⟩

/-- Below block g all is as in W, and g and g + 1 are still boxes of two cells: what a statement keeps that ends in two stores of integers. -/
def RZ (g : Nat) (t : TypeId) (W w' : World) : Prop := Below g W w' ∧ (∃ x y, Blk w' g t #[x, y]) ∧ ∃ x y, Blk w' (g + 1) t #[x, y]
section
variable {g : Nat} {t : TypeId} {W w w' : World}
theorem RZ.start {x y x' y' : Value} (h : Blk W g t #[x, y]) (h' : Blk W (g + 1) t #[x', y']) : RZ g t W W := ⟨Below.refl _ _, ⟨x, y, h⟩, x', y', h'⟩
theorem RZ.drew (h : RZ g t W w) : RZ g t W w.drew := ⟨h.1.drew, h.2⟩
theorem RZ.call (h : RZ g t W w) (hb : Below w.heap.size w w') : RZ g t W w' := by
 obtain ⟨h1, ⟨x, y, h2⟩, x', y', h3⟩ := h
 exact ⟨h1.trans (hb.mono (Nat.le_of_lt h2.lt)), ⟨x, y, h2.below hb h2.lt⟩, x', y', h3.below hb h3.lt⟩
theorem RZ.setA (h : RZ g t W w) (a b : Value) : RZ g t W ((w.setCell ⟨g, 0, none⟩ a).setCell ⟨g, 1, none⟩ b) := by
 obtain ⟨h1, ⟨x, y, h2⟩, x', y', h3⟩ := h
 exact ⟨below_set2 h1 (Nat.le_refl _) a b, ⟨a, b, h2.set2 a b⟩, x', y', (h3.far (by simp) _).far (by simp) _⟩
theorem RZ.setB (h : RZ g t W w) (a b : Value) : RZ g t W ((w.setCell ⟨g + 1, 0, none⟩ a).setCell ⟨g + 1, 1, none⟩ b) := by
 obtain ⟨h1, ⟨x, y, h2⟩, x', y', h3⟩ := h
 exact ⟨below_set2 h1 (by omega) a b, ⟨x, y, (h2.far (by simp) _).far (by simp) _⟩, a, b, h3.set2 a b⟩
theorem RZ.blk {g' : Nat} {t' : TypeId} {cs : Array Value} (h : RZ g t W w) (hg : Blk W g' t' cs) (hlt : g' < g) : Blk w g' t' cs := hg.below h.1 hlt
theorem RZ.four (h : RZ g t W w) : ∃ x y x' y', (w.cell? ⟨g, 0, none⟩ = some x ∧ w.cell? ⟨g, 1, none⟩ = some y ∧ w.frozen? ⟨g, 0, none⟩ = false ∧ w.frozen? ⟨g, 1, none⟩ = false) ∧
  w.cell? ⟨g + 1, 0, none⟩ = some x' ∧ w.cell? ⟨g + 1, 1, none⟩ = some y' ∧ w.frozen? ⟨g + 1, 0, none⟩ = false ∧ w.frozen? ⟨g + 1, 1, none⟩ = false := by
 obtain ⟨h1, ⟨x, y, h2⟩, x', y', h3⟩ := h
 exact ⟨x, y, x', y', h2.two, h3.two⟩
/-- Both stores done: what the boxes hold. -/
theorem RZ.done (h : RZ g t W w) (a b a' b' : Value) : Blk ((((w.setCell ⟨g, 0, none⟩ a).setCell ⟨g, 1, none⟩ b).setCell ⟨g + 1, 0, none⟩ a').setCell ⟨g + 1, 1, none⟩ b') g t #[a, b] ∧
  Blk ((((w.setCell ⟨g, 0, none⟩ a).setCell ⟨g, 1, none⟩ b).setCell ⟨g + 1, 0, none⟩ a').setCell ⟨g + 1, 1, none⟩ b') (g + 1) t #[a', b'] := by
 obtain ⟨h1, ⟨x, y, h2⟩, x', y', h3⟩ := h
 exact ⟨((h2.set2 a b).far (by simp) _).far (by simp) _, (((h3.far (by simp) _).far (by simp) _).set2 a' b')⟩
end
theorem Wat.set2two {w : World} {g base : Nat} {A : Option Addr} {n : Nat} {l : List Nat} (a b a' b' : Value) (h : Wat w A n l) (hf : Fresh base w A n) (hb : g + 1 < base) :
  Wat ((((w.setCell ⟨g, 0, none⟩ a).setCell ⟨g, 1, none⟩ b).setCell ⟨g + 1, 0, none⟩ a').setCell ⟨g + 1, 1, none⟩ b') A n l ∧ Fresh base ((((w.setCell ⟨g, 0, none⟩ a).setCell ⟨g, 1, none⟩ b).setCell ⟨g + 1, 0, none⟩ a').setCell ⟨g + 1, 1, none⟩ b') A n :=
 ⟨(((h.setFar hf (p := ⟨g, 0, none⟩) (by simp; omega) a).setFar (hf.set _ a) (p := ⟨g, 1, none⟩) (by simp; omega) b).setFar ((hf.set _ a).set _ b) (p := ⟨g + 1, 0, none⟩) (by simp; omega) a').setFar (((hf.set _ a).set _ b).set _ a') (p := ⟨g + 1, 1, none⟩) (by simp; omega) b',
  (((hf.set _ a).set _ b).set _ a').set _ b'⟩

/-- Numerator and denominator as two integers, perhaps in shared memory. -/
def RetParts (w : World) (num den : Int) (e : Ending) (w' : World) : Prop :=
 ∃ m1 B1 j1 d1 r1 m2 B2 j2 d2 r2, e = .returned (.tuple #[.agg #[.bool m1, .slice B1 j1 d1], .agg #[.bool m2, .slice B2 j2 d2]]) ∧ j1 ≤ d1 ∧ j2 ≤ d2 ∧ j1 ≤ 10000000000 ∧ j2 ≤ 10000000000 ∧
  Wat w' B1 j1 r1 ∧ Wat w' B2 j2 r2 ∧ sg m1 (val r1) = num ∧ sg m2 (val r2) = den ∧ Below w.heap.size w w'

set_option maxRecDepth 100000 in
set_option maxHeartbeats 4000000 in
theorem parts_any (neg neg' : Bool) (A A' : Option Addr) (n n' c c' : Nat) (l l' : List Nat) (w : World) (h : Wat w A n l) (h' : Wat w A' n' l') (hnc : n ≤ c) (hnc' : n' ≤ c') (hm : n ≤ 10000000000) (hm' : n' ≤ 10000000000) :
  Calls Tryz.prog 93 #[.agg #[.bool neg, .slice A n c, .bool neg', .slice A' n' c']] w (RetParts w (qnum (sg neg (val l)) (sg neg' (val l'))) (qden (sg neg' (val l')))) := by
 have T := fun W hW => sign_any neg' A' n' c' l' W hW hnc' (by omega)
 generalize hde : sg neg' (val l') = da at *
 have HDE := Lib.hid hde
 clear hde
 have T := Lib.hid T
 go_enter Tryz.func93, Tryz.ntmps93
 go_wp2_with fail
 obtain ⟨hB0, hB1, hB2, hBW, hsz⟩ := pre3 w 42 #[.bool neg, .slice A n c, .bool neg', .slice A' n' c'] 40 #[.bool false, .slice none 0 0] 40 #[.bool false, .slice none 0 0]
 generalize ((w.alloc (.cells #[.bool neg, .slice A n c, .bool neg', .slice A' n' c'] 42)).alloc (.cells #[.bool false, .slice none 0 0] 40)).alloc (.cells #[.bool false, .slice none 0 0] 40) = W at *
 have HSZ := Lib.hid hsz
 clear hsz
 refine (T.out W (h'.below hBW)).mono ?_
 rintro e W1 ⟨rfl, hb1⟩
 have hB0 := hB0.below hb1 (by have := HSZ.out; omega)
 have hB1 := hB1.below hb1 (by have := HSZ.out; omega)
 have hB2 := hB2.below hb1 (by have := HSZ.out; omega)
 have hBW : Below w.heap.size w W1 := hBW.trans (hb1.mono hBW.size)
 have hsz : w.heap.size + 1 + 1 + 1 ≤ W1.heap.size := hB2.lt
 have s4 := RZ.start hB1 hB2
 clear hb1 HSZ T
 rcases Int.lt_trichotomy da 0 with hda | hda | hda
 ·have e2 : qden da = -da := by unfold qden; rw [if_neg (by omega), if_pos hda]
  have e1 : qnum (sg neg (val l)) da = -(sg neg (val l)) := by unfold qnum; rw [if_pos hda]
  rw [show cmpI da 0 = -1 from cmpI_lt hda]
  have E1 := Lib.hid e1
  have E2 := Lib.hid e2
  clear e1 e2
  have hw : ∀ w', RZ (w.heap.size + 1) 40 W1 w' → Wat w' A n l ∧ Wat w' A' n' l' := fun w' hk => ⟨h.below (hBW.trans (hk.1.mono (by omega))), h'.below (hBW.trans (hk.1.mono (by omega)))⟩
  have N1 := fun w' (hk : RZ (w.heap.size + 1) 40 W1 w') => neg_any neg A n c l w' (hw w' hk).1 hnc (by omega)
  have N2 := fun w' (hk : RZ (w.heap.size + 1) 40 W1 w') => neg_any neg' A' n' c' l' w' (hw w' hk).2 hnc' (by omega)
  rw [HDE.out] at N2
  have hn8 : (-(sg neg (val l))).natAbs = val l := by rw [Int.natAbs_neg, sg_natAbs]
  have hn9 : (-da).natAbs = val l' := by rw [← HDE.out, Int.natAbs_neg, sg_natAbs]
  generalize -(sg neg (val l)) = z8 at *
  generalize -da = z9 at *
  have HN8 := Lib.hid hn8
  have HN9 := Lib.hid hn9
  clear hn8 hn9
  have N1 := Lib.hid N1
  have N2 := Lib.hid N2
  clear hw
  go_wp2_with fail
  have hS : ∀ w', RZ (w.heap.size + 1) 40 W1 w' → (w'.cell? ⟨w.heap.size, 0, none⟩ = some (.bool neg) ∧ w'.cell? ⟨w.heap.size, 1, none⟩ = some (.slice A n c) ∧ w'.cell? ⟨w.heap.size, 2, none⟩ = some (.bool neg') ∧ w'.cell? ⟨w.heap.size, 3, none⟩ = some (.slice A' n' c')) ∧ RZ (w.heap.size + 1) 40 W1 w' := fun w' hk => ⟨⟨(hk.blk hB0 (by omega)).cell 0, (hk.blk hB0 (by omega)).cell 1, (hk.blk hB0 (by omega)).cell 2, (hk.blk hB0 (by omega)).cell 3⟩, hk⟩
  have HS := Lib.hid hS
  clear hS
  clear hB1 hB2
  go_region_held3 (fun w' => (w'.cell? ⟨w.heap.size, 0, none⟩ = some (.bool neg) ∧ w'.cell? ⟨w.heap.size, 1, none⟩ = some (.slice A n c) ∧ w'.cell? ⟨w.heap.size, 2, none⟩ = some (.bool neg') ∧ w'.cell? ⟨w.heap.size, 3, none⟩ = some (.slice A' n' c')) ∧ RZ (w.heap.size + 1) 40 W1 w')
   (first | (with_reducible refine HS.out _ ?_; with_reducible assumption) | (with_reducible refine HS.out _ (RZ.drew ?_); with_reducible assumption) | (with_reducible refine' HS.out _ (RZ.drew (And.right ?_)); rotate_left; with_reducible assumption) | (with_reducible refine' HS.out _ (RZ.setA (And.right ?_) _ _); rotate_left; with_reducible assumption) | (with_reducible refine' HS.out _ (RZ.setB (And.right ?_) _ _); rotate_left; with_reducible assumption))
   (first
    | (go_at_call_of 140 (Value.agg #[.bool neg, .slice A n c]); have hk := And.right ‹_ ∧ RZ (w.heap.size + 1) 40 W1 _›; refine (N1.out _ hk).mono ?_; rintro e w8 ⟨A8, k8, c8, rfl, hk8, hW8, hF8, hb8⟩; have hz8 := hk.1.size; have hr8 := hk.call hb8)
    | (go_at_call_of 140 (Value.agg #[.bool neg', .slice A' n' c']); have hk := And.right ‹_ ∧ RZ (w.heap.size + 1) 40 W1 _›; refine (N2.out _ hk).mono ?_; rintro e w9 ⟨A9, k9, c9, rfl, hk9, hW9, hF9, hb9⟩; have hz9 := hk.1.size; have hr9 := hk.call hb9; obtain ⟨_, _, _, _, ⟨i0, i1, i2, i3⟩, i4, i5, i6, i7⟩ := hr9.four))
  have hF8 := hF8.keep hW8 hb9
  have hW8 := hW8.below hb9
  have hbz : Below w.heap.size w ((((w9.setCell ⟨w.heap.size + 1, 0, none⟩ (.bool (decide (z8 < 0)))).setCell ⟨w.heap.size + 1, 1, none⟩ (.slice A8 k8 c8)).setCell ⟨w.heap.size + 1 + 1, 0, none⟩ (.bool (decide (z9 < 0)))).setCell ⟨w.heap.size + 1 + 1, 1, none⟩ (.slice A9 k9 c9)) :=
   below_set2 (below_set2 (hBW.trans (hr9.1.mono (by omega))) (by omega) _ _) (by omega) _ _
  have hl8 : k8 ≤ 10000000000 := by rw [← hW8.1, HN8.out]; exact Nat.le_trans h.trim_le hm
  have hl9 : k9 ≤ 10000000000 := by rw [← hW9.1, HN9.out]; exact Nat.le_trans h'.trim_le hm'
  have hfin : RetParts w (qnum (sg neg (val l)) da) (qden da) (.returned (.tuple #[.agg #[.bool (decide (z8 < 0)), .slice A8 k8 c8], .agg #[.bool (decide (z9 < 0)), .slice A9 k9 c9]])) ((((w9.setCell ⟨w.heap.size + 1, 0, none⟩ (.bool (decide (z8 < 0)))).setCell ⟨w.heap.size + 1, 1, none⟩ (.slice A8 k8 c8)).setCell ⟨w.heap.size + 1 + 1, 0, none⟩ (.bool (decide (z9 < 0)))).setCell ⟨w.heap.size + 1 + 1, 1, none⟩ (.slice A9 k9 c9)) :=
   ⟨_, A8, k8, c8, digs z8.natAbs, _, A9, k9, c9, digs z9.natAbs, rfl, hk8, hk9, hl8, hl9, (hW8.set2two _ _ _ _ hF8 (by show _ < W1.heap.size; omega)).1, (hW9.set2two _ _ _ _ hF9 (by omega)).1, by rw [val_digs, sg_self]; exact E1.out.symm, by rw [val_digs, sg_self]; exact E2.out.symm, hbz⟩
  clear hbz hW8 hF8 hW9 hF9
  obtain ⟨hd1, hd2⟩ := hr9.done (.bool (decide (z8 < 0))) (.slice A8 k8 c8) (.bool (decide (z9 < 0))) (.slice A9 k9 c9)
  obtain ⟨d0, d1, -, -⟩ := hd1.two
  obtain ⟨d2, d3, -, -⟩ := hd2.two
  have D0 := Lib.hid d0
  have D1 := Lib.hid d1
  have D2 := Lib.hid d2
  have D3 := Lib.hid d3
  have HF := Lib.hid hfin
  clear hd1 hd2 d0 d1 d2 d3 hfin
  go_wp2
  refine bodyPost_ret (v := .tuple #[.agg #[.bool (decide (z8 < 0)), .slice A8 k8 c8], .agg #[.bool (decide (z9 < 0)), .slice A9 k9 c9]]) ?_ rfl HF.out
  have d0 := D0.out
  have d1 := D1.out
  have d2 := D2.out
  have d3 := D3.out
  simp [results, Tryz.results93, go_sem, d0, d1, d2, d3]
 ·subst hda
  have e2 : qden 0 = 1 := rfl
  have e1 : qnum (sg neg (val l)) 0 = sg neg (val l) := by unfold qnum; rw [if_neg (by omega)]
  rw [show cmpI 0 0 = 0 from rfl]
  have E1 := Lib.hid e1
  clear e1 e2
  go_wp2_with fail
  have hS : ∀ w', RZ (w.heap.size + 1) 40 W1 w' → (w'.cell? ⟨w.heap.size, 0, none⟩ = some (.bool neg) ∧ w'.cell? ⟨w.heap.size, 1, none⟩ = some (.slice A n c) ∧ w'.cell? ⟨w.heap.size, 2, none⟩ = some (.bool neg') ∧ w'.cell? ⟨w.heap.size, 3, none⟩ = some (.slice A' n' c')) ∧ RZ (w.heap.size + 1) 40 W1 w' := fun w' hk => ⟨⟨(hk.blk hB0 (by omega)).cell 0, (hk.blk hB0 (by omega)).cell 1, (hk.blk hB0 (by omega)).cell 2, (hk.blk hB0 (by omega)).cell 3⟩, hk⟩
  have HS := Lib.hid hS
  clear hS
  clear hB1 hB2
  go_region_held3 (fun w' => (w'.cell? ⟨w.heap.size, 0, none⟩ = some (.bool neg) ∧ w'.cell? ⟨w.heap.size, 1, none⟩ = some (.slice A n c) ∧ w'.cell? ⟨w.heap.size, 2, none⟩ = some (.bool neg') ∧ w'.cell? ⟨w.heap.size, 3, none⟩ = some (.slice A' n' c')) ∧ RZ (w.heap.size + 1) 40 W1 w')
   (first | (with_reducible refine HS.out _ ?_; with_reducible assumption) | (with_reducible refine HS.out _ (RZ.drew ?_); with_reducible assumption) | (with_reducible refine' HS.out _ (RZ.drew (And.right ?_)); rotate_left; with_reducible assumption) | (with_reducible refine' HS.out _ (RZ.setA (And.right ?_) _ _); rotate_left; with_reducible assumption) | (with_reducible refine' HS.out _ (RZ.setB (And.right ?_) _ _); rotate_left; with_reducible assumption))
   (first
    | (go_at_call 88; have hk := And.right ‹_ ∧ RZ (w.heap.size + 1) 40 W1 _›; refine (fromInt64_any 1 _ (by omega) (by omega)).mono ?_; rintro e w9 ⟨A9, k9, c9, rfl, hk9, hW9, hF9, hb9⟩; have hz9 := hk.1.size; have hr9 := hk.call hb9; obtain ⟨_, _, _, _, ⟨i0, i1, i2, i3⟩, i4, i5, i6, i7⟩ := hr9.four))
  have hbz : Below w.heap.size w ((((w9.setCell ⟨w.heap.size + 1, 0, none⟩ (.bool neg)).setCell ⟨w.heap.size + 1, 1, none⟩ (.slice A n c)).setCell ⟨w.heap.size + 1 + 1, 0, none⟩ (.bool false)).setCell ⟨w.heap.size + 1 + 1, 1, none⟩ (.slice A9 k9 c9)) :=
   below_set2 (below_set2 (hBW.trans (hr9.1.mono (by omega))) (by omega) _ _) (by omega) _ _
  have hfin : RetParts w (qnum (sg neg (val l)) 0) (qden 0) (.returned (.tuple #[.agg #[.bool neg, .slice A n c], .agg #[.bool false, .slice A9 k9 c9]])) ((((w9.setCell ⟨w.heap.size + 1, 0, none⟩ (.bool neg)).setCell ⟨w.heap.size + 1, 1, none⟩ (.slice A n c)).setCell ⟨w.heap.size + 1 + 1, 0, none⟩ (.bool false)).setCell ⟨w.heap.size + 1 + 1, 1, none⟩ (.slice A9 k9 c9)) :=
   ⟨neg, A, n, c, l, false, A9, k9, c9, digs 1, rfl, hnc, hk9, hm, by rw [← hW9.1]; exact Nat.le_trans (digs_len_le (k := 1).2 (by decide)) (by decide), h.below hbz, (hW9.set2two _ _ _ _ hF9 (by show _ < W1.heap.size; omega)).1, E1.out.symm, by rw [val_digs]; rfl, hbz⟩
  clear hbz hW9 hF9
  obtain ⟨hd1, hd2⟩ := hr9.done (.bool neg) (.slice A n c) (.bool false) (.slice A9 k9 c9)
  obtain ⟨d0, d1, -, -⟩ := hd1.two
  obtain ⟨d2, d3, -, -⟩ := hd2.two
  have D0 := Lib.hid d0
  have D1 := Lib.hid d1
  have D2 := Lib.hid d2
  have D3 := Lib.hid d3
  have HF := Lib.hid hfin
  clear hd1 hd2 d0 d1 d2 d3 hfin
  go_wp2
  refine bodyPost_ret (v := .tuple #[.agg #[.bool neg, .slice A n c], .agg #[.bool false, .slice A9 k9 c9]]) ?_ rfl HF.out
  have d0 := D0.out
  have d1 := D1.out
  have d2 := D2.out
  have d3 := D3.out
  simp [results, Tryz.results93, go_sem, d0, d1, d2, d3]
 ·have e2 : qden da = da := by unfold qden; rw [if_neg (by omega), if_neg (by omega)]
  have e1 : qnum (sg neg (val l)) da = sg neg (val l) := by unfold qnum; rw [if_neg (by omega)]
  rw [show cmpI da 0 = 1 from cmpI_gt hda]
  have E1 := Lib.hid e1
  have E2 := Lib.hid e2
  clear e1 e2
  go_wp2_with fail
  have hr9 := s4
  obtain ⟨_, _, _, _, ⟨i0, i1, i2, i3⟩, i4, i5, i6, i7⟩ := s4.four
  obtain ⟨e0, e1, e2, e3, -, -, -, -⟩ := hB0.four
  clear hB0 hB1 hB2
  have hbz : Below w.heap.size w ((((W1.setCell ⟨w.heap.size + 1, 0, none⟩ (.bool neg)).setCell ⟨w.heap.size + 1, 1, none⟩ (.slice A n c)).setCell ⟨w.heap.size + 1 + 1, 0, none⟩ (.bool neg')).setCell ⟨w.heap.size + 1 + 1, 1, none⟩ (.slice A' n' c')).drew :=
   (below_set2 (below_set2 hBW (by omega) _ _) (by omega) _ _).drew
  have hfin : RetParts w (qnum (sg neg (val l)) da) (qden da) (.returned (.tuple #[.agg #[.bool neg, .slice A n c], .agg #[.bool neg', .slice A' n' c']])) ((((W1.setCell ⟨w.heap.size + 1, 0, none⟩ (.bool neg)).setCell ⟨w.heap.size + 1, 1, none⟩ (.slice A n c)).setCell ⟨w.heap.size + 1 + 1, 0, none⟩ (.bool neg')).setCell ⟨w.heap.size + 1 + 1, 1, none⟩ (.slice A' n' c')).drew :=
   ⟨neg, A, n, c, l, neg', A', n', c', l', rfl, hnc, hnc', hm, hm', h.below hbz, h'.below hbz, E1.out.symm, by rw [HDE.out]; exact E2.out.symm, hbz⟩
  have HFIN := Lib.hid hfin
  have HR9 := Lib.hid hr9
  clear hbz hfin hr9 s4
  go_region
  have hfin := HFIN.out
  have hr9 := HR9.out
  obtain ⟨hd1, hd2⟩ := hr9.done (.bool neg) (.slice A n c) (.bool neg') (.slice A' n' c')
  obtain ⟨d0, d1, -, -⟩ := hd1.two
  obtain ⟨d2, d3, -, -⟩ := hd2.two
  have D0 := Lib.hid d0
  have D1 := Lib.hid d1
  have D2 := Lib.hid d2
  have D3 := Lib.hid d3
  have HF := Lib.hid hfin
  clear hd1 hd2 d0 d1 d2 d3 hfin
  go_wp2
  refine bodyPost_ret (v := .tuple #[.agg #[.bool neg, .slice A n c], .agg #[.bool neg', .slice A' n' c']]) ?_ rfl HF.out
  have d0 := D0.out
  have d1 := D1.out
  have d2 := D2.out
  have d3 := D3.out
  simp [results, Tryz.results93, go_sem, d0, d1, d2, d3]

end Go.Proofs.YtjajigkacccdgaaGreat
