/-
Contract of reduce of package frac. No statement of the seat is proved here; no conditions beyond those of each theorem.
-/
import Derived.Test.YtjajigkacccdgaaGreatTdAG
namespace Go.Proofs.YtjajigkacccdgaaGreat
set_option linter.unusedVariables false
set_option linter.unusedSimpArgs false
open Go.RowKit
open Wd

/-- What package whole owes up to a bound M. -/
structure WOK (M : Nat) : Prop where
 add : AddOK M
 sub : SubOK M
 div : DivW M
 len : ∀ x, x < M → (digs x).length ≤ 10000000000

theorem sg_tdiv (neg : Bool) (m g : Nat) : (sg neg m).tdiv (g : Int) = sg neg (m / g) := by
 unfold sg
 cases neg
 ·simp [Int.ofNat_tdiv]
 ·simp [Int.neg_tdiv, Int.ofNat_tdiv]

set_option maxRecDepth 100000 in
set_option maxHeartbeats 4000000 in
theorem reduce_any (M : Nat) (HO : WOK M) (neg neg' : Bool) (A A' : Option Addr) (n n' c c' : Nat) (l l' : List Nat) (w : World) (h : Wat w A n l) (h' : Wat w A' n' l') (hnc : n ≤ c) (hnc' : n' ≤ c') (hm : n ≤ 10000000000) (hm' : n' ≤ 10000000000)
  (hx : val l < M) (hy : val l' < M) (hpos : 0 < sg neg' (val l')) :
  Calls Tryz.prog 111 #[.agg #[.bool neg, .slice A n c], .agg #[.bool neg', .slice A' n' c']] w (RetQ w (mkRat (sg neg (val l)) (val l'))) := by
 have hn' : neg' = false := by unfold sg at hpos; cases neg' <;> simp at hpos ⊢; omega
 subst hn'
 have hD : val l' ≠ 0 := by unfold sg at hpos; simp at hpos; omega
 have en := mk_num (sg neg (val l)) (val l') hD
 have ed := mk_den (sg neg (val l)) (val l') hD
 rw [sg_natAbs] at en ed
 rw [sg_tdiv] at en
 generalize mkRat (sg neg (val l)) (val l') = q at *
 have TS := fun W hW => sign_any false A' n' c' l' W hW hnc' (by omega)
 rw [cmpI_gt hpos] at TS
 have TG := fun W hW hW' => gcd_any M HO.len HO.div neg false A A' n n' c c' l l' W hW hW' hnc hnc' hm hm' hx hy
 have hgp : Nat.gcd (val l) (val l') ≠ 0 := fun hh => hD (Nat.eq_zero_of_gcd_eq_zero_right hh)
 have hg1 : Nat.gcd (val l) (val l') ∣ val l := Nat.gcd_dvd_left _ _
 have hg2 : Nat.gcd (val l) (val l') ∣ val l' := Nat.gcd_dvd_right _ _
 have hgl : (digs (Nat.gcd (val l) (val l'))).length ≤ 10000000000 := HO.len _ (Nat.lt_of_le_of_lt (Nat.le_of_dvd (by omega) hg2) hy)
 have TS := Lib.hid TS
 have TG := Lib.hid TG
 generalize Nat.gcd (val l) (val l') = gg at *
 have T1 := fun (A5 : Option Addr) (k5 c5 : Nat) (W : World) (hW : Wat W A n l) (hW5 : Wat W A5 k5 (digs gg)) (hk5 : k5 ≤ c5) => divMod_exact M HO.div neg false A A5 n k5 c c5 l (digs gg) W hW hW5 hnc hk5 hm (by rw [← hW5.1]; exact hgl) hx (by rw [val_digs]; exact hgp) (by rw [val_digs]; exact hg1)
 have T2 := fun (A5 : Option Addr) (k5 c5 : Nat) (W : World) (hW : Wat W A' n' l') (hW5 : Wat W A5 k5 (digs gg)) (hk5 : k5 ≤ c5) => divMod_exact M HO.div false false A' A5 n' k5 c' c5 l' (digs gg) W hW hW5 hnc' hk5 hm' (by rw [← hW5.1]; exact hgl) hy (by rw [val_digs]; exact hgp) (by rw [val_digs]; exact hg2)
 rw [val_digs, show (neg != false) = neg by cases neg <;> rfl, ← en] at T1
 rw [val_digs, show (false != false) = false from rfl, ← ed, show sg false q.den = ((q.den : Nat) : Int) from rfl] at T2
 have hql : (digs q.den).length ≤ 10000000000 := HO.len _ (Nat.lt_of_le_of_lt (by rw [ed]; exact Nat.div_le_self _ _) hy)
 have T1 := Lib.hid T1
 have T2 := Lib.hid T2
 have HQL := Lib.hid hql
 have hq1 : q.den ≠ 0 := q.den_nz
 have HO := Lib.hid HO
 have hgs : decide (((gg : Nat) : Int) < 0) = false := by simp
 have hqs : decide (((q.den : Nat) : Int) < 0) = false := by simp
 clear en ed hgp hg1 hg2 hgl hD hpos hx hy hql HO
 go_enter Tryz.func111, Tryz.ntmps111
 go_wp2_with fail
 obtain ⟨hB0, hB1, hB2, hBW, hsz⟩ := pre3 w 40 #[.bool neg, .slice A n c] 40 #[.bool false, .slice A' n' c'] 42 #[.bool false, .slice none 0 0, .bool false, .slice none 0 0]
 generalize ((w.alloc (.cells #[.bool neg, .slice A n c] 40)).alloc (.cells #[.bool false, .slice A' n' c'] 40)).alloc (.cells #[.bool false, .slice none 0 0, .bool false, .slice none 0 0] 42) = W at *
 have HSZ := Lib.hid hsz
 clear hsz
 refine (TS.out W (h'.below hBW)).mono ?_
 rintro e w1 ⟨rfl, hb1⟩
 have hB0 := hB0.below hb1 hB0.lt
 have hB1 := hB1.below hb1 hB1.lt
 have hB2 := hB2.below hb1 hB2.lt
 have hb1 : Below w.heap.size w w1 := hBW.trans (hb1.mono hBW.size)
 clear hBW HSZ TS
 obtain ⟨c0, c1, -, -⟩ := hB0.two
 obtain ⟨c2, c3, -, -⟩ := hB1.two
 have hz1 : w.heap.size + 1 + 1 + 1 ≤ w1.heap.size := hB2.lt
 go_wp2_with fail
 refine (TG.out w1 (h.below hb1) (h'.below hb1)).mono ?_
 rintro e w2 ⟨A5, k5, c5, rfl, hk5, hW5, hF5, hb2⟩
 have hB0 := hB0.below hb2 hB0.lt
 have hB1 := hB1.below hb2 hB1.lt
 have hB2 := hB2.below hb2 hB2.lt
 have hb2 : Below w.heap.size w w2 := hb1.trans (hb2.mono hb1.size)
 rw [Int.natAbs_natCast] at hW5
 rw [hgs]
 have hz2 : w.heap.size + 1 + 1 + 1 ≤ w2.heap.size := hB2.lt
 have hB5 := Blk.new w2 40 #[.bool false, .slice A5 k5 c5]
 have hF5 := (hF5.mono hz1).keep hW5 ((Below.refl _ w2).alloc (Nat.le_refl _) (.cells #[.bool false, .slice A5 k5 c5] 40))
 have hW5 := hW5.alloc (.cells #[.bool false, .slice A5 k5 c5] 40)
 have hB0 := hB0.alloc (.cells #[.bool false, .slice A5 k5 c5] 40)
 have hB1 := hB1.alloc (.cells #[.bool false, .slice A5 k5 c5] 40)
 have hB2 := hB2.alloc (.cells #[.bool false, .slice A5 k5 c5] 40)
 have hb3 := hb2.alloc hb2.size (.cells #[.bool false, .slice A5 k5 c5] 40)
 have hz3 : (w2.alloc (.cells #[.bool false, .slice A5 k5 c5] 40)).heap.size = w2.heap.size + 1 := World.size_alloc _ _
 have HZ3 := Lib.hid hz3
 clear hz3
 clear c0 c1 c2 c3 hgs TG hb1 hb2
 obtain ⟨c0, c1, c2, c3⟩ := hB0.two
 obtain ⟨e0, e1, -, -⟩ := hB5.two
 go_wp2_with fail
 clear c0 c1 c2 c3 e0 e1
 generalize w2.alloc (.cells #[.bool false, .slice A5 k5 c5] 40) = W3 at *
 have hz3 : w.heap.size + 1 + 1 + 1 < W3.heap.size := by have := HZ3.out; omega
 refine (T1.out A5 k5 c5 W3 (h.below hb3) hW5 hk5).mono ?_
 rintro e w6 ⟨A6, k6, c6, rfl, hk6, hW6, hF6, hb6⟩
 have hB0 := hB0.below hb6 hB0.lt
 have hB1 := hB1.below hb6 hB1.lt
 have hB2 := hB2.below hb6 hB2.lt
 have hB5 := hB5.below hb6 hB5.lt
 have hF5 := hF5.keep hW5 hb6
 have hW5 := hW5.below hb6
 have hz6 : W3.heap.size ≤ w6.heap.size := hb6.size
 have hb6 : Below w.heap.size w w6 := hb3.trans (hb6.mono hb3.size)
 obtain ⟨c0, c1, c2, c3⟩ := hB0.two
 have hB0 := hB0.set2 (.bool (decide (q.num < 0))) (.slice A6 k6 c6)
 have hB1 := (hB1.far (p := ⟨w.heap.size, 0, none⟩) (by simp) (.bool (decide (q.num < 0)))).far (p := ⟨w.heap.size, 1, none⟩) (by simp) (.slice A6 k6 c6)
 have hB2 := (hB2.far (p := ⟨w.heap.size, 0, none⟩) (by simp; omega) (.bool (decide (q.num < 0)))).far (p := ⟨w.heap.size, 1, none⟩) (by simp; omega) (.slice A6 k6 c6)
 have hB5 := (hB5.far (p := ⟨w.heap.size, 0, none⟩) (by simp; omega) (.bool (decide (q.num < 0)))).far (p := ⟨w.heap.size, 1, none⟩) (by simp; omega) (.slice A6 k6 c6)
 have hF6' : Fresh (w.heap.size + 1) w6 A6 k6 := hF6.mono (by omega)
 have hF6 := (hF6.set ⟨w.heap.size, 0, none⟩ (.bool (decide (q.num < 0)))).set ⟨w.heap.size, 1, none⟩ (.slice A6 k6 c6)
 have hW6 := (store2_far (.bool (decide (q.num < 0))) (.slice A6 k6 c6) hW6 hF6').1
 have hb7 := below_set2 hb6 (Nat.le_refl w.heap.size) (.bool (decide (q.num < 0))) (.slice A6 k6 c6)
 obtain ⟨e0, e1, -, -⟩ := hB1.two
 obtain ⟨e2, e3, -, -⟩ := hB5.two
 have hW5 := (store2_far (g := w.heap.size) (.bool (decide (q.num < 0))) (.slice A6 k6 c6) hW5 (hF5.mono (by omega))).1
 have hF5 := (hF5.set ⟨w.heap.size, 0, none⟩ (.bool (decide (q.num < 0)))).set ⟨w.heap.size, 1, none⟩ (.slice A6 k6 c6)
 clear hF6' hb6 hb3
 go_wp2_with fail
 clear c0 c1 c2 c3 e0 e1 e2 e3
 have hz7 : w.heap.size + 1 + 1 + 1 < ((w6.setCell ⟨w.heap.size, 0, none⟩ (.bool (decide (q.num < 0)))).setCell ⟨w.heap.size, 1, none⟩ (.slice A6 k6 c6)).heap.size := by simp [World.setCell]; omega
 generalize (w6.setCell ⟨w.heap.size, 0, none⟩ (.bool (decide (q.num < 0)))).setCell ⟨w.heap.size, 1, none⟩ (.slice A6 k6 c6) = W6 at *
 refine (T2.out A5 k5 c5 W6 (h'.below hb7) hW5 hk5).mono ?_
 rintro e w8 ⟨A7, k7, c7, rfl, hk7, hW7, hF7, hb8⟩
 rw [hqs]
 rw [Int.natAbs_natCast] at hW7
 have hB0 := hB0.below hb8 hB0.lt
 have hB1 := hB1.below hb8 hB1.lt
 have hB2 := hB2.below hb8 hB2.lt
 have hF6 := hF6.keep hW6 hb8
 have hW6 := hW6.below hb8
 have hb8 : Below w.heap.size w w8 := hb7.trans (hb8.mono hb7.size)
 obtain ⟨c0, c1, c2, c3⟩ := hB1.two
 have hB1 := hB1.set2 (.bool false) (.slice A7 k7 c7)
 have hB0 := (hB0.far (p := ⟨w.heap.size + 1, 0, none⟩) (by simp) (.bool false)).far (p := ⟨w.heap.size + 1, 1, none⟩) (by simp) (.slice A7 k7 c7)
 have hB2 := (hB2.far (p := ⟨w.heap.size + 1, 0, none⟩) (by simp) (.bool false)).far (p := ⟨w.heap.size + 1, 1, none⟩) (by simp) (.slice A7 k7 c7)
 have hW6 := (store2_far (g := w.heap.size + 1) (.bool false) (.slice A7 k7 c7) hW6 (hF6.mono (by omega))).1
 have hF6 := (hF6.set ⟨w.heap.size + 1, 0, none⟩ (.bool false)).set ⟨w.heap.size + 1, 1, none⟩ (.slice A7 k7 c7)
 have hW7 := (store2_far (g := w.heap.size + 1) (.bool false) (.slice A7 k7 c7) hW7 (hF7.mono (by omega))).1
 have hF7 := (hF7.set ⟨w.heap.size + 1, 0, none⟩ (.bool false)).set ⟨w.heap.size + 1, 1, none⟩ (.slice A7 k7 c7)
 have hb9 := below_set2 hb8 (by omega : w.heap.size ≤ w.heap.size + 1) (.bool false) (.slice A7 k7 c7)
 obtain ⟨e0, e1, -, -⟩ := hB1.two
 clear hW5 hF5 hB5 hb7 hb8 T1 T2 hqs
 go_wp2_with fail
 clear c0 c1 c2 c3 e0 e1
 generalize (w8.setCell ⟨w.heap.size + 1, 0, none⟩ (.bool false)).setCell ⟨w.heap.size + 1, 1, none⟩ (.slice A7 k7 c7) = W8 at *
 have hl7 : k7 ≤ 10000000000 := by rw [← hW7.1]; exact HQL.out
 refine (int64_any false A7 k7 c7 (digs q.den) W8 hW7 hk7 (by omega)).mono ?_
 rw [val_digs, show sg false q.den = ((q.den : Nat) : Int) from rfl]
 rintro e w9 ⟨x, b, rfl, hbt, hbf, hb10⟩
 have hB0 := hB0.below hb10 hB0.lt
 have hB1 := hB1.below hb10 hB1.lt
 have hB2 := hB2.below hb10 hB2.lt
 have hF6 := hF6.keep hW6 hb10
 have hW6 := hW6.below hb10
 have hF7 := hF7.keep hW7 hb10
 have hW7 := hW7.below hb10
 have hb10 : Below w.heap.size w w9 := hb9.trans (hb10.mono hb9.size)
 have hF6 := hF6.mono (show w.heap.size + 1 + 1 + 1 ≤ W3.heap.size by omega)
 have hF7 := hF7.mono (show w.heap.size + 1 + 1 + 1 ≤ W6.heap.size by omega)
 clear hb9 hz6 hz7 hz1 hz2 hz3 HZ3
 obtain ⟨c0, c1, -, -⟩ := hB0.two
 obtain ⟨c2, c3, f2, f3⟩ := hB1.two
 obtain ⟨g0, g1, g2, g3, r0, r1, r2, r3⟩ := hB2.four
 by_cases hd1 : q.den = 1
 ·have hb : b = true := by
   cases b
   ·exact absurd (show Fits ((q.den : Nat) : Int) by rw [hd1]; unfold Fits; omega) (hbf rfl).2
   ·rfl
  subst hb
  have hx1 : x = 1 := by rw [(hbt rfl).1, hd1]; rfl
  subst hx1
  have hWd : Wat w9 none 0 (denW q.den) := by rw [hd1]; exact Wat.nil
  have hw0 := (store2_far (g := w.heap.size + 1) (.bool false) (.slice none 0 0) hW6 (hF6.mono (by omega))).1
  have hf0 := (hF6.set ⟨w.heap.size + 1, 0, none⟩ (.bool false)).set ⟨w.heap.size + 1, 1, none⟩ (.slice none 0 0)
  have hB0' := (hB0.far (p := ⟨w.heap.size + 1, 0, none⟩) (by simp) (.bool false)).far (p := ⟨w.heap.size + 1, 1, none⟩) (by simp) (.slice none 0 0)
  have hB1' := hB1.set2 (.bool false) (.slice none 0 0)
  have hB2' := (hB2.far (p := ⟨w.heap.size + 1, 0, none⟩) (by simp) (.bool false)).far (p := ⟨w.heap.size + 1, 1, none⟩) (by simp) (.slice none 0 0)
  have hb11 := below_set2 hb10 (by omega : w.heap.size ≤ w.heap.size + 1) (.bool false) (.slice none 0 0)
  have hr := RS4.start hB2'
  have hfin := retQ_close (g := w.heap.size + 1 + 1) (c' := 0) hb11 (by omega) (Nat.lt_succ_self _) hr hk6 (Nat.le_refl 0) hw0 (show Wat _ none 0 (denW q.den) by rw [hd1]; exact Wat.nil) hf0 Fresh.nil
  have hdn := hr.done (.bool (decide (q.num < 0))) (.slice A6 k6 c6) (.bool false) (.slice none 0 0)
  obtain ⟨d0, d1, d2, d3, -, -, -, -⟩ := hdn.four
  have HF := Lib.hid hfin
  have D0 := Lib.hid d0
  have D1 := Lib.hid d1
  have D2 := Lib.hid d2
  have D3 := Lib.hid d3
  have HD1 := Lib.hid hd1
  clear hfin hdn d0 d1 d2 d3 hr hb11 hB0 hB1 hB2 hB0' hB1' hB2' hw0 hf0 hWd hW6 hW7 hF6 hF7 hbt hbf hd1
  go_wp2
  refine bodyPost_ret (v := .agg #[.bool (decide (q.num < 0)), .slice A6 k6 c6, .bool false, .slice none 0 0]) ?_ rfl HF.out
  have d0 := D0.out
  have d1 := D1.out
  have d2 := D2.out
  have d3 := D3.out
  simp [results, Tryz.results111, go_sem, d0, d1, d2, d3]
 ·have hr := RS4.start hB2
  have hWd : Wat w9 A7 k7 (denW q.den) := by unfold denW; rw [if_neg hd1]; exact hW7
  have hfin := retQ_close (g := w.heap.size + 1 + 1) hb10 (by omega) (Nat.lt_succ_self _) hr hk6 hk7 hW6 hWd hF6 hF7
  have hdn := hr.done (.bool (decide (q.num < 0))) (.slice A6 k6 c6) (.bool false) (.slice A7 k7 c7)
  obtain ⟨d0, d1, d2, d3, -, -, -, -⟩ := hdn.four
  have hx1 : b = true → (x == 1) = false := fun hb => by rw [(hbt hb).1]; simp; omega
  have HF := Lib.hid hfin
  have D0 := Lib.hid d0
  have D1 := Lib.hid d1
  have D2 := Lib.hid d2
  have D3 := Lib.hid d3
  have HD1 := Lib.hid hd1
  clear hfin hdn d0 d1 d2 d3 hr hB0 hB1 hB2 hWd hW6 hW7 hF6 hF7 hbt hbf hd1
  cases b
  ·clear hx1
   go_wp2
   refine bodyPost_ret (v := .agg #[.bool (decide (q.num < 0)), .slice A6 k6 c6, .bool false, .slice A7 k7 c7]) ?_ rfl HF.out
   have d0 := D0.out
   have d1 := D1.out
   have d2 := D2.out
   have d3 := D3.out
   simp [results, Tryz.results111, go_sem, d0, d1, d2, d3]
  ·have hx1 := hx1 rfl
   go_wp2
   refine bodyPost_ret (v := .agg #[.bool (decide (q.num < 0)), .slice A6 k6 c6, .bool false, .slice A7 k7 c7]) ?_ rfl HF.out
   have d0 := D0.out
   have d1 := D1.out
   have d2 := D2.out
   have d3 := D3.out
   simp [results, Tryz.results111, go_sem, d0, d1, d2, d3]

end Go.Proofs.YtjajigkacccdgaaGreat
