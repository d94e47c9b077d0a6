/-
Contracts of FromInt64, Canonical, Sign, Cmp, Equal, Min and Floor of package frac. No statement of the seat is proved here; no conditions beyond those of each theorem.
-/
import Derived.Test.YtjajigkacccdgaaGreatTdAK
namespace Go.Proofs.YtjajigkacccdgaaGreat
set_option linter.unusedVariables false
set_option linter.unusedSimpArgs false
open Go.RowKit
open Wd

set_option maxHeartbeats 1000000 in
theorem qfromInt64_any (z : Int) (w : World) (h1 : -9223372036854775808 ≤ z) (h2 : z ≤ 9223372036854775807) :
  Calls Tryz.prog 40 #[.int .i64 z] w (RetQ w (z : Rat)) := by
 have T := Lib.hid (fun W => fromInt64_any z W h1 h2)
 have en : ((z : Int) : Rat).num = z := Rat.num_intCast z
 have ed : ((z : Int) : Rat).den = 1 := Rat.den_intCast z
 rw [← en] at T
 rw [en] at T
 generalize ((z : Int) : Rat) = q at *
 have ED := Lib.hid ed
 have EN := Lib.hid en
 clear ed en h1 h2
 go_enter Tryz.func40, Tryz.ntmps40
 go_wp2_with fail
 obtain ⟨hB0, hBW, hsz⟩ := pre1 w 42 #[.bool false, .slice none 0 0, .bool false, .slice none 0 0]
 generalize w.alloc (.cells #[.bool false, .slice none 0 0, .bool false, .slice none 0 0] 42) = W at *
 have HSZ := Lib.hid hsz
 clear hsz
 refine (T.out W).mono ?_
 rw [← EN.out]
 rintro e w3 ⟨A3, k3, c3, rfl, hk3, hW3, hF3, hb3⟩
 have hr3 := (RS4.start hB0).call hb3
 obtain ⟨_, _, _, _, c0, c1, c2, c4, f0, f1, f2, f3⟩ := hr3.four
 have hW4 : Wat w3 none 0 (denW q.den) := by rw [ED.out]; exact Wat.nil
 have hF4 : Fresh W.heap.size w3 none 0 := Fresh.nil
 have hfin := retQ_close (c' := 0) hBW (Nat.le_refl _) (by have := HSZ.out; omega) hr3 hk3 (Nat.le_refl 0) hW3 hW4 hF3 hF4
 obtain ⟨d0, d1, d2, d3, -, -, -, -⟩ := (hr3.done (.bool (decide (q.num < 0))) (.slice A3 k3 c3) (.bool false) (.slice none 0 0)).four
 have HF := Lib.hid hfin
 clear hfin hB0 hr3 hW3 hF3 hW4 hF4 hb3
 go_wp2
 refine bodyPost_ret (v := .agg #[.bool (decide (q.num < 0)), .slice A3 k3 c3, .bool false, .slice none 0 0]) ?_ rfl HF.out
 simp [results, Tryz.results40, go_sem, d0, d1, d2, d3]

/-- The sign of a rational. -/
def sgnQ (q : Rat) : Int := cmpI q.num 0
theorem sgn_mk (n d : Int) (hd : 0 < d) : cmpI (mkRat n d.natAbs).num 0 = cmpI n 0 := by
 rw [mk_num n d.natAbs (by omega)]
 have hg : 0 < Nat.gcd n.natAbs d.natAbs := Nat.gcd_pos_of_pos_right _ (by omega)
 obtain ⟨m, hm⟩ : ((Nat.gcd n.natAbs d.natAbs : Nat) : Int) ∣ n := Int.ofNat_dvd_left.2 (Nat.gcd_dvd_left _ _)
 generalize Nat.gcd n.natAbs d.natAbs = G at *
 have e : n.tdiv (G : Int) = m := by rw [hm]; exact Int.mul_tdiv_cancel_left m (by omega)
 rw [e, hm]
 rcases Int.lt_trichotomy m 0 with h | h | h
 ·rw [cmpI_lt h, cmpI_lt (Int.mul_neg_of_pos_of_neg (by omega) h)]
 ·rw [h, Int.mul_zero]
 ·rw [cmpI_gt h, cmpI_gt (Int.mul_pos (by omega) h)]

set_option maxHeartbeats 1000000 in
theorem qsign_any {Nn Nd : Nat} (an an' : Bool) (aA aA' : Option Addr) (ak ac ak' ac' : Nat) (q : Rat) (w : World) (ha : QAt Nn Nd w an aA ak ac an' aA' ak' ac' q) :
  Calls Tryz.prog 57 #[.agg #[.bool an, .slice aA ak ac, .bool an', .slice aA' ak' ac']] w fun e w' => e = .returned (.int .i64 (sgnQ q)) ∧ Below w.heap.size w w' := by
 obtain ⟨na, da, ⟨l, l', h1, h2, h3, h4, h5, h6, hs, hs'⟩, _, _, rfl⟩ := ha
 unfold sgnQ
 rw [sgn_mk _ _ (qden_pos da)]
 have S1 := fun W hW => sign_any an aA ak ac l W hW h3 (by omega)
 have S2 := fun W hW => sign_any an' aA' ak' ac' l' W hW h4 (by omega)
 rw [hs] at S1
 rw [hs'] at S2
 have hq : qnum na da = if da < 0 then -na else na := rfl
 have S1 := Lib.hid S1
 have S2 := Lib.hid S2
 by_cases hda : da < 0
 ·have e : cmpI (qnum na da) 0 = -(cmpI na 0) := by
   rw [hq, if_pos hda]; unfold cmpI; split <;> split <;> (try split) <;> (try split) <;> omega
  rw [e]
  rw [cmpI_lt hda] at S2
  have hr : -1 ≤ cmpI na 0 ∧ cmpI na 0 ≤ 1 := by unfold cmpI; split <;> (try split) <;> omega
  generalize cmpI na 0 = x at *
  clear e hq hs hs' hda
  obtain ⟨r1, r2⟩ := hr
  go_enter Tryz.func57, Tryz.ntmps57
  go_wp2_with fail
  obtain ⟨hB0, hBW, hsz⟩ := pre1 w 42 #[.bool an, .slice aA ak ac, .bool an', .slice aA' ak' ac']
  generalize w.alloc (.cells #[.bool an, .slice aA ak ac, .bool an', .slice aA' ak' ac'] 42) = W at *
  have HSZ := Lib.hid hsz
  clear hsz
  refine (S2.out W (h2.below hBW)).mono ?_
  rintro e w1 ⟨rfl, hb1⟩
  have hB0 := hB0.below hb1 hB0.lt
  have hb1 : Below w.heap.size w w1 := hBW.trans (hb1.mono hBW.size)
  obtain ⟨c0, c1, c2, c3, -, -, -, -⟩ := hB0.four
  clear hBW HSZ S2 hB0
  go_wp2_with fail
  refine (S1.out w1 (h1.below hb1)).mono ?_
  rintro e w2 ⟨rfl, hb2⟩
  have hb2 : Below w.heap.size w w2 := hb1.trans (hb2.mono hb1.size)
  clear hb1 S1 c0 c1 c2 c3
  go_wp2
  go_ret
  exact ⟨rfl, hb2⟩
 ·have e : cmpI (qnum na da) 0 = cmpI na 0 := by rw [hq, if_neg hda]
  rw [e]
  have hd0 : 0 ≤ cmpI da 0 := by unfold cmpI; rw [if_neg hda]; split <;> omega
  generalize cmpI na 0 = x at *
  generalize cmpI da 0 = y at *
  clear e hq hs hs' hda
  go_enter Tryz.func57, Tryz.ntmps57
  go_wp2_with fail
  obtain ⟨hB0, hBW, hsz⟩ := pre1 w 42 #[.bool an, .slice aA ak ac, .bool an', .slice aA' ak' ac']
  generalize w.alloc (.cells #[.bool an, .slice aA ak ac, .bool an', .slice aA' ak' ac'] 42) = W at *
  have HSZ := Lib.hid hsz
  clear hsz
  refine (S2.out W (h2.below hBW)).mono ?_
  rintro e w1 ⟨rfl, hb1⟩
  have hB0 := hB0.below hb1 hB0.lt
  have hb1 : Below w.heap.size w w1 := hBW.trans (hb1.mono hBW.size)
  obtain ⟨c0, c1, c2, c3, -, -, -, -⟩ := hB0.four
  clear hBW HSZ S2 hB0
  go_wp2_with fail
  refine (S1.out w1 (h1.below hb1)).mono ?_
  rintro e w2 ⟨rfl, hb2⟩
  have hb2 : Below w.heap.size w w2 := hb1.trans (hb2.mono hb1.size)
  clear hb1 S1 c0 c1 c2 c3
  go_wp2
  go_ret
  exact ⟨rfl, hb2⟩


set_option maxRecDepth 100000 in
set_option maxHeartbeats 2000000 in
theorem qcanon_any (M Nn Nd : Nat) (HO : WOK M) (hnm : Nn ≤ M) (hdm : Nd ≤ M) (an an' : Bool) (aA aA' : Option Addr) (ak ac ak' ac' : Nat) (q : Rat) (w : World) (ha : QAt Nn Nd w an aA ak ac an' aA' ak' ac' q) :
  Calls Tryz.prog 112 #[.agg #[.bool an, .slice aA ak ac, .bool an', .slice aA' ak' ac']] w (RetQ w q) := by
 obtain ⟨na, da, hia, hna, hda, rfl⟩ := ha
 have S1 := fun W hW => short_in (w := W) (h := hia.below (w' := W) hW)
 have P1 := fun W hW => parts_in (w := W) (h := hia.below (w' := W) hW)
 have hsm : Small na ∧ Small da → Small (qnum na da) ∧ Small (qden da) := fun h1 => ⟨small_num h1.1, small_den h1.2⟩
 have hp1 := qden_pos da
 have R1 := fun (m1 m2 : Bool) (B1 B2 : Option Addr) (j1 d1 j2 d2 : Nat) (r1 r2 : List Nat) (W : World) (h1 : ZIn W m1 B1 j1 d1 r1 (qnum na da)) (h2 : ZIn W m2 B2 j2 d2 r2 (qden da)) => reduce_any M HO m1 m2 B1 B2 j1 j2 d1 d2 r1 r2 W h1.1 h2.1 h1.2.1 h2.2.1 h1.2.2.1 h2.2.2.1 (by rw [h1.abs]; omega) (by rw [h2.abs]; omega) (by rw [h2.2.2.2]; exact hp1)
 unfold ShortPost at S1
 have hR := fun W (h : Small na ∧ Small da) => ratio_any (qnum na da) (qden da) W (by have := (hsm h).1; unfold Small at this; unfold Fit63; omega) hp1 (by have := (hsm h).2; unfold Small at this; omega)
 rw [show (qden da).toNat = (qden da).natAbs by omega] at hR
 have R2 := fun (m1 m2 : Bool) (B1 B2 : Option Addr) (j1 d1 j2 d2 : Nat) (r1 r2 : List Nat) (W : World) (h1 : ZIn W m1 B1 j1 d1 r1 (qnum na da)) (h2 : ZIn W m2 B2 j2 d2 r2 (qden da)) => (by have := R1 m1 m2 B1 B2 j1 d1 j2 d2 r1 r2 W h1 h2; rw [h1.2.2.2, h2.abs] at this; exact this : Calls Tryz.prog 111 #[.agg #[.bool m1, .slice B1 j1 d1], .agg #[.bool m2, .slice B2 j2 d2]] W (RetQ W (mkRat (qnum na da) (qden da).natAbs)))
 generalize mkRat (qnum na da) (qden da).natAbs = q at *
 generalize qnum na da = x1 at *
 generalize qden da = x2 at *
 have S1 := Lib.hid S1
 have P1 := Lib.hid P1
 have HR := Lib.hid hR
 have R2 := Lib.hid R2
 clear hR R1 hsm hna hda
 go_enter Tryz.func112, Tryz.ntmps112
 go_wp2_with fail
 obtain ⟨hB0, hB1, hBW, hsz⟩ := pre2 w 42 #[.bool an, .slice aA ak ac, .bool an', .slice aA' ak' ac'] 42 #[.bool false, .slice none 0 0, .bool false, .slice none 0 0]
 generalize (w.alloc (.cells #[.bool an, .slice aA ak ac, .bool an', .slice aA' ak' ac'] 42)).alloc (.cells #[.bool false, .slice none 0 0, .bool false, .slice none 0 0] 42) = W at *
 have HSZ := Lib.hid hsz
 clear hsz
 refine (S1.out W hBW).mono ?_
 rintro e w1 ⟨hs1, hb1⟩
 have hB0 := hB0.below hb1 hB0.lt
 have hB1 := hB1.below hb1 hB1.lt
 have hb1 : Below w.heap.size w w1 := hBW.trans (hb1.mono hBW.size)
 have hz1 : w.heap.size + 1 + 1 ≤ w1.heap.size := hB1.lt
 obtain ⟨c0, c1, c2, c5, -, -, -, -⟩ := hB0.four
 clear hBW HSZ S1
 rcases hs1 with ⟨hsa, hsa', rfl⟩ | ⟨hsa, rfl⟩
 ·have HR2 := Lib.hid (fun W => HR.out W ⟨hsa, hsa'⟩)
  clear hsa hsa' HR
  go_wp2_with fail
  refine (HR2.out w1).mono ?_
  rintro e w3 ⟨A3, k3, c3, A4, k4, c4, rfl, hk3, hk4, hW3, hW4, hF3, hF4, hb3⟩
  have hr3 := (RS4.start hB1).call hb3
  obtain ⟨_, _, _, _, i0, i1, i2, i3, i4, i5, i6, i7⟩ := hr3.four
  have hBW := hb1
  have HSZ : Hid True := trivial
  have hfin := retQ_close hBW (by omega) (by have := HSZ.out; omega) hr3 hk3 hk4 hW3 hW4 hF3 hF4
  obtain ⟨d0, d1, d2, d3, -, -, -, -⟩ := (hr3.done (.bool (decide ((q).num < 0))) (.slice A3 k3 c3) (.bool false) (.slice A4 k4 c4)).four
  have HF := Lib.hid hfin
  clear hfin hB0 hB1 HSZ c0 c1 c2 c5
  go_wp2
  refine bodyPost_ret (v := .agg #[.bool (decide ((q).num < 0)), .slice A3 k3 c3, .bool false, .slice A4 k4 c4]) ?_ rfl HF.out
  simp [results, Tryz.results112, go_sem, d0, d1, d2, d3]
 ·clear hsa HR
  go_wp2_with fail
  refine (P1.out w1 hb1).mono ?_
  rintro e w2 ⟨m1, B1, j1, d1, r1, m2, B2, j2, d2, r2, rfl, hj1, hj2, hl1, hl2, hW1, hW2, hs1, hs2, hb2⟩
  have hB1 := hB1.below hb2 hB1.lt
  have T := Lib.hid (R2.out m1 m2 B1 B2 j1 d1 j2 d2 r1 r2 w2 ⟨hW1, hj1, hl1, hs1⟩ ⟨hW2, hj2, hl2, hs2⟩)
  have hz2 := hb2.size
  have hb2 : Below w.heap.size w w2 := hb1.trans (hb2.mono hb1.size)
  clear hs1 hs2 hW1 hW2 c0 c1 c2 c5 P1 R2 hb1
  go_wp2_with fail
  refine T.out.mono ?_
  rintro e w3 ⟨A3, k3, c3, A4, k4, c4, rfl, hk3, hk4, hW3, hW4, hF3, hF4, hb3⟩
  have hr3 := (RS4.start hB1).call hb3
  obtain ⟨_, _, _, _, i0, i1, i2, i3, i4, i5, i6, i7⟩ := hr3.four
  have hBW := hb2
  have HSZ : Hid True := trivial
  have hfin := retQ_close hBW (by omega) (by have := HSZ.out; omega) hr3 hk3 hk4 hW3 hW4 hF3 hF4
  obtain ⟨d0, d1, d2, d3, -, -, -, -⟩ := (hr3.done (.bool (decide ((q).num < 0))) (.slice A3 k3 c3) (.bool false) (.slice A4 k4 c4)).four
  have HF := Lib.hid hfin
  clear hfin hB0 hB1 HSZ
  go_wp2
  refine bodyPost_ret (v := .agg #[.bool (decide ((q).num < 0)), .slice A3 k3 c3, .bool false, .slice A4 k4 c4]) ?_ rfl HF.out
  simp [results, Tryz.results112, go_sem, d0, d1, d2, d3]

end Go.Proofs.YtjajigkacccdgaaGreat
