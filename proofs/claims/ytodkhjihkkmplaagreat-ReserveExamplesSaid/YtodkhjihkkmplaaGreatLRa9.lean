/-
The reference of layer 1 at numbers of any size: div by many digits; div whole. No statement of the seat is proved here; no conditions beyond those of each theorem.
-/
import Derived.Test.YtodkhjihkkmplaaGreatLPV
namespace Go.Proofs.YtodkhjihkkmplaaGreat
set_option linter.unusedVariables false
set_option linter.unusedSimpArgs false
open Go.RowKit
open Wd

theorem HA.setAway {w : World} {A : Option Addr} {n c v B : Nat} (h : HA w A n c v) (hf : n ≠ 0 → ∃ b o, A = some ⟨b, o, none⟩ ∧ B ≤ b) {p : Addr} (hp : p.block < B) (u : Value) : HA (w.setCell p u) A n c v := by
 refine ⟨h.1, ⟨h.2.1.1, fun h0 => ?_⟩, h.2.2⟩
 obtain ⟨b, o, e, hlt, hc⟩ := h.2.1.2 h0
 obtain ⟨b', o', e', hb'⟩ := hf h0
 rw [e] at e'
 cases e'
 refine ⟨b, o, e, by simpa [World.setCell] using hlt, fun j hj => ?_⟩
 rw [World.cell?_setCell_other _ _ _ _ (fun e => by subst e; simp at hp; omega)]
 exact hc j hj

set_option maxRecDepth 100000 in
set_option maxHeartbeats 4000000 in
theorem div_long (A B : Option Addr) (n c m d a b : Nat) (w : World) (h : HA w A n c a) (h' : HA w B m d b) (hb0 : 0 < b) (hn : n ≤ 12000000000) (hm : m ≤ 12000000000) (hm1 : m ≠ 1) (h3 : 3 < n ∨ (n ≤ 3 ∧ 3 < m)) :
  Calls Tryz.prog 153 #[.slice A n c, .slice B m d] w (RetHH w (a / b) (a % b)) := by
 have HX := Lib.hid h.ra
 have HRB := Lib.hid h'
 have HB0 := Lib.hid hb0
 have HAL := Lib.hid h.ra.lt
 have HBL := Lib.hid h'.ra.lt
 obtain ⟨ii, hii, hz0, hz1, hz2⟩ := info_parts info_int
 have HI := Lib.hid hii
 have HZ0 := Lib.hid hz0
 have HZ1 := Lib.hid hz1
 have HZ2 := Lib.hid hz2
 have d1 : ((m : Int) == 1) = false := by simp; omega
 have d2 : (m == 1) = false := by simp; omega
 have hd : (decide ((n : Int) ≤ 3) = false ∧ decide (n ≤ 3) = false) ∨ (decide ((n : Int) ≤ 3) = true ∧ decide (n ≤ 3) = true ∧ decide ((m : Int) ≤ 3) = false ∧ decide (m ≤ 3) = false) := by
  rcases h3 with h3 | ⟨h3, h4⟩
  ·exact Or.inl ⟨decide_eq_false (by omega), decide_eq_false (by omega)⟩
  ·exact Or.inr ⟨decide_eq_true (by omega), decide_eq_true (by omega), decide_eq_false (by omega), decide_eq_false (by omega)⟩
 have hmk := fun w => run_make_q n (by omega) w
 clear h h' h3 hm1 hii hz0 hz1 hz2
 rcases hd with ⟨d3, d4⟩ | ⟨d3, d4, d5, d6⟩
 all_goals
  go_enter Tryz.func153, Tryz.ntmps153
  go_wp2_with fail
  clear d1 d2 d3 d4 hmk
  (try clear d5 d6)
  have hrow := DRow.start w n
  have hbel : Below w.heap.size w (w.alloc (.cells (Array.replicate n (.int .i64 0)) 3)) := (Below.refl _ _).alloc (Nat.le_refl _) _
  generalize w.alloc (.cells (Array.replicate n (.int .i64 0)) 3) = W at *
  have HROW := Lib.hid hrow
  have HBEL := Lib.hid hbel
  clear hrow hbel
  go_loopw [9, 10] (fun t9 t10 wr => ∃ (t : Nat) (hs : List Int) (Ar : Option Addr) (nr cr : Nat), t ≤ n ∧ t10 = .int .i64 ((t : Int) - 1) ∧ t9 = .slice Ar nr cr ∧ Hid (Below w.heap.size w wr ∧ DRow wr w.heap.size hs ∧ QuoI (a / b) n t hs ∧ HA wr Ar nr cr (rst a b t))) (fun _ t10 _ => (intOf t10 + 1).toNat)
  case atStart => exact ⟨n, List.replicate n 0, none, 0, 0, Nat.le_refl _, by first | rfl | go_num, rfl, HBEL.out, HROW.out, QuoI.start _ _, by rw [rst_top HAL.out]; exact ⟨by rw [hd_zero]; rfl, by rw [hd_zero]; exact ⟨rfl, fun h => absurd rfl h⟩, Nat.le_refl _⟩⟩
  case round =>
   clear HROW HBEL
   obtain ⟨t, hs, Ar, nr, cr, ht, rfl, rfl, hR⟩ := hrel
   by_cases h0 : t = 0
   ·subst h0
    obtain ⟨hB, hro, hq, hr⟩ := hR.out
    have hra := hq.ra hro (Nat.lt_of_le_of_lt (Nat.div_le_self _ _) HAL.out)
    rw [rst_zero] at hr
    have T := Lib.hid (trim_ra _ n n (a / b) wr hra (by omega))
    have HB := Lib.hid hB
    have HR := Lib.hid hr
    clear hB hra hR hq hro hr
    go_wp2_with fail
    refine T.out.mono ?_
    rintro e w1 ⟨A1, n1, rfl, h1, hw1⟩
    rw [hw1] at h1 ⊢
    have H1 := Lib.hid h1
    clear h1 hw1
    go_wp2
    go_ret2
    exact ⟨A1, n1, n, Ar, nr, cr, rfl, H1.out, HR.out, HB.out⟩
   ·obtain ⟨j, rfl⟩ : ∃ j, t = j + 1 := ⟨t - 1, by omega⟩
    obtain ⟨ba, oa, hAe, hba, hca⟩ := HX.out.cells (by omega)
    have cj0 := hca j (by omega)
    have ej : (((j + 1 : Nat) : Int) - 1) = (j : Int) := by omega
    simp only [ej]
    have j1 : (0 : Int) ≤ (j : Int) := by omega
    have j2 : (j : Int) < (n : Int) := by omega
    obtain ⟨hB, hro, hq, hr⟩ := hR.out
    have cj := (hB.cell (p := ⟨ba, oa + j, none⟩) hba).trans cj0
    obtain ⟨ds, hsr, hsd, hsv, hsl⟩ := hr.ra.srcOf
    have l1 := rst_lt a b (j + 1) HB0.out
    have hnr := hr.len (Nat.lt_trans l1 HBL.out)
    have l2 := dg_lt a j
    have k1 := (Kp.refl wr).alloc (.cells #[.int .i64 ((dg a j : Nat) : Int)] 3)
    have o1 := Own.lit (base := wr.heap.size) wr ((dg a j : Nat) : Int) 3 (Nat.le_refl _)
    have m1 := hsr.below k1
    have HSD := Lib.hid hsd
    have HSV := Lib.hid hsv
    have HL2 := Lib.hid l2
    have HR0 := Lib.hid (And.intro hB (And.intro hro hq))
    obtain ⟨x, hx⟩ : ∃ x, x = dg a j + 65536 * rst a b (j + 1) := ⟨_, rfl⟩
    have hxs := rst_step a b j HB0.out
    rw [show rst a b (j + 1) * 65536 + dg a j = x by rw [hx]; omega] at hxs
    have HX1 := Lib.hid hxs.1
    have HX2 := Lib.hid hxs.2
    have hxb : x < 65536 * b := by omega
    have HXB := Lib.hid hxb
    have HXM := Lib.hid (show x < 65536 ^ (m + 1) by
     rw [Nat.pow_succ, Nat.mul_comm]
     exact Nat.lt_trans hxb (Nat.mul_lt_mul_of_pos_left HBL.out (by decide)))
    have HHX := Lib.hid hx
    clear hca hR hB hro hq hr hsr hsd hsv hsl l1 l2 hxs hx hxb cj0
    rw [hAe]
    generalize rst a b (j + 1) = r0 at *
    go_wp2_with (first
     | (at_builtin; refine wpList_append_my rfl (base := wr.heap.size) (e := 3) (size := 1) (bytes := 8) (.tmp 83) (.tmp 84) 66 rfl Tryz.underlying66 HI.out HZ0.out HZ1.out HZ2.out rfl (by decide) (xs := [.int .i64 ((dg a j : Nat) : Int)]) (news := ds.map (Value.int .i64)) rfl (by exact o1) rfl (by exact m1) (by simp only [maxLen]; omega) (by omega) (by exact k1.size) ?_
        intro B1 cb1 w4 hO1 hb1 hk1
        have g1 : Kp wr w4 := Below.trans k1 hb1
        clear hb1 hk1))
    have hra4 := Own.front (x := dg a j) hO1 HSD.out HSV.out HL2.out
    rw [← HHX.out] at hra4
    have T := Lib.hid (trim_ra B1 (1 + nr) cb1 x w4 hra4 (by omega))
    have hR3 := Lib.hid (And.intro (HR0.out.1.trans (g1.mono HR0.out.1.size)) (And.intro (HR0.out.2.1.kp g1) HR0.out.2.2))
    clear hO1 hra4 g1 k1 o1 m1 HSD HSV HL2 HR0 HHX
    refine T.out.mono ?_
    rintro e w5 ⟨A2, n2, rfl, h2, hw5⟩
    rw [← hw5] at hR3
    have hR4 := And.intro hR3.out.1 (And.intro hR3.out.2.1 (And.intro hR3.out.2.2 h2))
    have hn2 := h2.len HXM.out
    clear hR3 hw5 T
    by_cases hlm : n2 < m
    ·have d1 : decide ((n2 : Int) < (m : Int)) = true := decide_eq_true (by omega)
     have d2 : decide (n2 < m) = true := decide_eq_true hlm
     have HHI := Lib.hid (show x < 1 * b by rw [Nat.one_mul]; exact h2.lt_of_len HRB.out hlm)
     clear h2 hlm
     go_wp2_with fail
     have HR4 := Lib.hid hR4
     clear hR4
     obtain ⟨wv, hwv⟩ : ∃ v, v = w5 := ⟨_, rfl⟩
     rw [← hwv] at HR4 ⊢
     clear hwv
     go_loopw [11, 12] (fun t11 t12 wr => ∃ (lo hi : Nat), t11 = .int .i64 (lo : Int) ∧ t12 = .int .i64 (hi : Int) ∧ lo < hi ∧ hi ≤ 65536 ∧ Hid (Kp wv wr ∧ lo * b ≤ x ∧ x < hi * b)) (fun t11 t12 _ => (intOf t12).toNat - (intOf t11).toNat)
     case atStart => exact ⟨0, 1, rfl, rfl, by decide, by decide, Kp.refl _, by omega, HHI.out⟩
     case round =>
      clear HHI
      obtain ⟨lo, hi, rfl, rfl, hlh, hhi, hQ⟩ := hrel
      have W1 := Lib.hid (w_of (z := (hi : Int) - (lo : Int)) (k := hi - lo) (by omega) (by omega))
      by_cases hgt : 1 < hi - lo
      ·obtain ⟨mid, hmid⟩ : ∃ mid, mid = (lo + hi) / 2 := ⟨_, rfl⟩
       have hm1 : lo < mid := by omega
       have hm2 : mid < hi := by omega
       have d1 : decide ((1 : Int) < ((hi - lo : Nat) : Int)) = true := decide_eq_true (by omega)
       have d2 : decide (1 < hi - lo) = true := decide_eq_true hgt
       have hme : mid - lo < hi - lo ∧ hi - mid < hi - lo := by omega
       have W2 := Lib.hid (w_of (z := (lo : Int) + (hi : Int)) (k := lo + hi) (by omega) (by omega))
       have W3 := Lib.hid (wr_nat (x := mid) (by omega))
       have hbm : b * mid < 65536 ^ (m + 1) := by rw [Nat.pow_succ]; exact Nat.mul_lt_mul_of_lt_of_le HBL.out (by omega) (by decide)
       have T1 := Lib.hid (times_ra B m d b mid wr (((HRB.out.below HR4.out.1).below hQ.out.1).ra) (by omega) (by omega))
       have T2 := Lib.hid (fun (W : World) (hW : Kp wr W) (A1 : Option Addr) (n1 c1 : Nat) (h1 : RA W A1 n1 c1 (b * mid)) (hn1 : n1 ≤ 1000000000000) => cmp_ra A1 A2 n1 c1 n2 cb1 (b * mid) x W h1 ((HR4.out.2.2.2.ra.below hQ.out.1).below hW) hn1 (by omega))
       have HME := Lib.hid hme
       have HBM := Lib.hid hbm
       have HMM := Lib.hid (And.intro hm1 hm2)
       have f3 : ((lo + hi : Nat) : Int).tdiv 2 = (mid : Int) := by rw [Int.tdiv_eq_ediv_of_nonneg (Int.natCast_nonneg _), hmid]; simp
       have f4 : ((lo + hi : Nat) : Int) / 2 = (mid : Int) := by rw [hmid]; simp
       have p1 : (0 : Int) ≤ ((lo + hi : Nat) : Int) := Int.natCast_nonneg _
       have HHI := Lib.hid hhi
       have HF34 := Lib.hid (And.intro f3 (And.intro f4 (And.intro W1.out (And.intro W2.out W3.out))))
       clear hme hbm hm1 hm2 hmid hgt f3 f4 hhi W1 W2 W3
       by_cases hle : b * mid ≤ x
       ·have hv : decide (cmpN (b * mid) x ≤ 0) = true := decide_eq_true (by unfold cmpN; split <;> (try split) <;> omega)
        have HQ2 := Lib.hid (show mid * b ≤ x ∧ x < hi * b from ⟨by rw [Nat.mul_comm]; exact hle, hQ.out.2.2⟩)
        have HKQ := Lib.hid hQ.out.1
        generalize cmpN (b * mid) x = cv at *
        obtain ⟨f3, f4, ⟨e1, f1⟩, ⟨e2, f2⟩, w1, u1⟩ := HF34.out
        generalize ((lo + hi : Nat) : Int) = sm at *
        generalize ((hi - lo : Nat) : Int) = df at *
        clear hle hQ HF34
        go_wp2_with fail
        refine T1.out.mono ?_
        rintro e w5 ⟨A5, n5, c5, rfl, h5, hb5⟩
        have hn5 := h5.len HBM.out
        have T3 := Lib.hid (T2.out w5 hb5 A5 n5 c5 h5.ra (by omega))
        have HK5 := Lib.hid hb5
        clear h5 hb5 T1 T2
        go_wp2_with fail
        refine T3.out.mono ?_
        rintro e w6 ⟨rfl, hw6⟩
        rw [hw6]
        clear T3 hw6
        have HFK := Lib.hid (show Kp wv w5 ∧ mid * b ≤ x ∧ x < hi * b from ⟨HKQ.out.trans HK5.out, HQ2.out⟩)
        clear HKQ HQ2 HK5
        go_wp2
        go_roundw
        case rel => exact ⟨mid, hi, rfl, rfl, HMM.out.2, HHI.out, HFK.out⟩
        case measure =>
         have := HME.out.2
         simp only [intOf, Int.toNat_natCast]
         exact this
       ·have hv : decide (cmpN (b * mid) x ≤ 0) = false := decide_eq_false (by rw [cmp_gt (by omega)]; decide)
        have HQ2 := Lib.hid (show lo * b ≤ x ∧ x < mid * b from ⟨hQ.out.2.1, by rw [Nat.mul_comm]; omega⟩)
        have HKQ := Lib.hid hQ.out.1
        generalize cmpN (b * mid) x = cv at *
        obtain ⟨f3, f4, ⟨e1, f1⟩, ⟨e2, f2⟩, w1, u1⟩ := HF34.out
        generalize ((lo + hi : Nat) : Int) = sm at *
        generalize ((hi - lo : Nat) : Int) = df at *
        clear hle hQ HF34
        go_wp2_with fail
        refine T1.out.mono ?_
        rintro e w5 ⟨A5, n5, c5, rfl, h5, hb5⟩
        have hn5 := h5.len HBM.out
        have T3 := Lib.hid (T2.out w5 hb5 A5 n5 c5 h5.ra (by omega))
        have HK5 := Lib.hid hb5
        clear h5 hb5 T1 T2
        go_wp2_with fail
        refine T3.out.mono ?_
        rintro e w6 ⟨rfl, hw6⟩
        rw [hw6]
        clear T3 hw6
        have HFK := Lib.hid (show Kp wv w5 ∧ lo * b ≤ x ∧ x < mid * b from ⟨HKQ.out.trans HK5.out, HQ2.out⟩)
        clear HKQ HQ2 HK5
        go_wp2
        go_roundw
        case rel => exact ⟨lo, mid, rfl, rfl, HMM.out.1, Nat.le_trans (Nat.le_of_lt HMM.out.2) HHI.out, HFK.out⟩
        case measure =>
         have := HME.out.1
         simp only [intOf, Int.toNat_natCast]
         exact this
      ·have d1 : decide ((1 : Int) < ((hi - lo : Nat) : Int)) = false := decide_eq_false (by omega)
       have d2 : decide (1 < hi - lo) = false := decide_eq_false hgt
       obtain ⟨hs1, hs2⟩ := seek_done HB0.out hQ.out.2.1 hQ.out.2.2 (by omega)
       have hlx : b * lo ≤ x := by rw [Nat.mul_comm]; exact hQ.out.2.1
       have T1 := Lib.hid (times_ra B m d b lo wr (((HRB.out.below HR4.out.1).below hQ.out.1).ra) (by omega) (by omega))
       have T2 := Lib.hid (fun (W : World) (hW : Kp wr W) (A1 : Option Addr) (n1 c1 : Nat) (h1 : RA W A1 n1 c1 (b * lo)) => sub_ra A2 A1 n2 cb1 n1 c1 x (b * lo) W ((HR4.out.2.2.2.ra.below hQ.out.1).below hW) h1 (by omega) hlx)
       have HKQ := Lib.hid hQ.out.1
       have HS1 := Lib.hid (hs1.trans HX1.out)
       have HS2 := Lib.hid (hs2.trans HX2.out)
       obtain ⟨e1, f1⟩ := W1.out
       generalize ((hi - lo : Nat) : Int) = df at *
       clear hs1 hs2 hlx hQ hgt W1
       go_wp2_with fail
       refine T1.out.mono ?_
       rintro e w6 ⟨A5, n5, c5, rfl, h5, hb5⟩
       have T3 := Lib.hid (T2.out w6 hb5 A5 n5 c5 h5.ra)
       have HK5 := Lib.hid hb5
       clear h5 hb5 T1 T2
       go_wp2_with fail
       refine T3.out.mono ?_
       rintro e w7 ⟨A6, n6, c6, rfl, h6, hb6, hf6⟩
       rw [HS2.out] at h6
       have hk6 : Kp wv w7 := (HKQ.out.trans HK5.out).trans hb6
       have hro := HR4.out.2.1.kp hk6
       have hqi := HR4.out.2.2.1
       have cq := hro.cell (i := j) (by rw [hqi.1]; omega)
       have fq := hro.frozen j
       have hgv : w.heap.size < wv.heap.size := HR4.out.2.1.lt
       have hgw : w.heap.size < w6.heap.size := Nat.lt_of_lt_of_le hgv (HKQ.out.trans HK5.out).size
       have HF := Lib.hid (show Below w.heap.size w (w7.setCell ⟨w.heap.size, j, none⟩ (.int .i64 (lo : Int))) ∧ DRow (w7.setCell ⟨w.heap.size, j, none⟩ (.int .i64 (lo : Int))) w.heap.size (hs.set j (lo : Int)) ∧ QuoI (a / b) n j (hs.set j (lo : Int)) ∧ HA (w7.setCell ⟨w.heap.size, j, none⟩ (.int .i64 (lo : Int))) A6 n6 c6 (rst a b j) from
        ⟨(HR4.out.1.trans (hk6.mono HR4.out.1.size)).setCell (p := ⟨w.heap.size, j, none⟩) (Nat.le_refl _) _, hro.set j _, hqi.step (by omega) HS1.out, h6.setAway hf6 (by show w.heap.size < _; exact hgw) _⟩)
       generalize hs[j]?.getD 0 = old at *
       clear hro hqi h6 hb6 hf6 hk6 T3 HK5 HKQ HS1 HS2 hgv hgw
       go_wp2
       go_roundw
       case rel => exact ⟨j, _, A6, n6, c6, by omega, by first | rfl | go_num, rfl, HF.out⟩
       case measure => simp [intOf]
    ·have d1 : decide ((n2 : Int) < (m : Int)) = false := decide_eq_false (by omega)
     have d2 : decide (n2 < m) = false := decide_eq_false hlm
     have HHI := Lib.hid HXB.out
     clear h2 hlm
     go_wp2_with fail
     have HR4 := Lib.hid hR4
     clear hR4
     obtain ⟨wv, hwv⟩ : ∃ v, v = w5 := ⟨_, rfl⟩
     rw [← hwv] at HR4 ⊢
     clear hwv
     go_loopw [11, 12] (fun t11 t12 wr => ∃ (lo hi : Nat), t11 = .int .i64 (lo : Int) ∧ t12 = .int .i64 (hi : Int) ∧ lo < hi ∧ hi ≤ 65536 ∧ Hid (Kp wv wr ∧ lo * b ≤ x ∧ x < hi * b)) (fun t11 t12 _ => (intOf t12).toNat - (intOf t11).toNat)
     case atStart => exact ⟨0, 65536, rfl, rfl, by decide, by decide, Kp.refl _, by omega, HHI.out⟩
     case round =>
      clear HHI
      obtain ⟨lo, hi, rfl, rfl, hlh, hhi, hQ⟩ := hrel
      have W1 := Lib.hid (w_of (z := (hi : Int) - (lo : Int)) (k := hi - lo) (by omega) (by omega))
      by_cases hgt : 1 < hi - lo
      ·obtain ⟨mid, hmid⟩ : ∃ mid, mid = (lo + hi) / 2 := ⟨_, rfl⟩
       have hm1 : lo < mid := by omega
       have hm2 : mid < hi := by omega
       have d1 : decide ((1 : Int) < ((hi - lo : Nat) : Int)) = true := decide_eq_true (by omega)
       have d2 : decide (1 < hi - lo) = true := decide_eq_true hgt
       have hme : mid - lo < hi - lo ∧ hi - mid < hi - lo := by omega
       have W2 := Lib.hid (w_of (z := (lo : Int) + (hi : Int)) (k := lo + hi) (by omega) (by omega))
       have W3 := Lib.hid (wr_nat (x := mid) (by omega))
       have hbm : b * mid < 65536 ^ (m + 1) := by rw [Nat.pow_succ]; exact Nat.mul_lt_mul_of_lt_of_le HBL.out (by omega) (by decide)
       have T1 := Lib.hid (times_ra B m d b mid wr (((HRB.out.below HR4.out.1).below hQ.out.1).ra) (by omega) (by omega))
       have T2 := Lib.hid (fun (W : World) (hW : Kp wr W) (A1 : Option Addr) (n1 c1 : Nat) (h1 : RA W A1 n1 c1 (b * mid)) (hn1 : n1 ≤ 1000000000000) => cmp_ra A1 A2 n1 c1 n2 cb1 (b * mid) x W h1 ((HR4.out.2.2.2.ra.below hQ.out.1).below hW) hn1 (by omega))
       have HME := Lib.hid hme
       have HBM := Lib.hid hbm
       have HMM := Lib.hid (And.intro hm1 hm2)
       have f3 : ((lo + hi : Nat) : Int).tdiv 2 = (mid : Int) := by rw [Int.tdiv_eq_ediv_of_nonneg (Int.natCast_nonneg _), hmid]; simp
       have f4 : ((lo + hi : Nat) : Int) / 2 = (mid : Int) := by rw [hmid]; simp
       have p1 : (0 : Int) ≤ ((lo + hi : Nat) : Int) := Int.natCast_nonneg _
       have HHI := Lib.hid hhi
       have HF34 := Lib.hid (And.intro f3 (And.intro f4 (And.intro W1.out (And.intro W2.out W3.out))))
       clear hme hbm hm1 hm2 hmid hgt f3 f4 hhi W1 W2 W3
       by_cases hle : b * mid ≤ x
       ·have hv : decide (cmpN (b * mid) x ≤ 0) = true := decide_eq_true (by unfold cmpN; split <;> (try split) <;> omega)
        have HQ2 := Lib.hid (show mid * b ≤ x ∧ x < hi * b from ⟨by rw [Nat.mul_comm]; exact hle, hQ.out.2.2⟩)
        have HKQ := Lib.hid hQ.out.1
        generalize cmpN (b * mid) x = cv at *
        obtain ⟨f3, f4, ⟨e1, f1⟩, ⟨e2, f2⟩, w1, u1⟩ := HF34.out
        generalize ((lo + hi : Nat) : Int) = sm at *
        generalize ((hi - lo : Nat) : Int) = df at *
        clear hle hQ HF34
        go_wp2_with fail
        refine T1.out.mono ?_
        rintro e w5 ⟨A5, n5, c5, rfl, h5, hb5⟩
        have hn5 := h5.len HBM.out
        have T3 := Lib.hid (T2.out w5 hb5 A5 n5 c5 h5.ra (by omega))
        have HK5 := Lib.hid hb5
        clear h5 hb5 T1 T2
        go_wp2_with fail
        refine T3.out.mono ?_
        rintro e w6 ⟨rfl, hw6⟩
        rw [hw6]
        clear T3 hw6
        have HFK := Lib.hid (show Kp wv w5 ∧ mid * b ≤ x ∧ x < hi * b from ⟨HKQ.out.trans HK5.out, HQ2.out⟩)
        clear HKQ HQ2 HK5
        go_wp2
        go_roundw
        case rel => exact ⟨mid, hi, rfl, rfl, HMM.out.2, HHI.out, HFK.out⟩
        case measure =>
         have := HME.out.2
         simp only [intOf, Int.toNat_natCast]
         exact this
       ·have hv : decide (cmpN (b * mid) x ≤ 0) = false := decide_eq_false (by rw [cmp_gt (by omega)]; decide)
        have HQ2 := Lib.hid (show lo * b ≤ x ∧ x < mid * b from ⟨hQ.out.2.1, by rw [Nat.mul_comm]; omega⟩)
        have HKQ := Lib.hid hQ.out.1
        generalize cmpN (b * mid) x = cv at *
        obtain ⟨f3, f4, ⟨e1, f1⟩, ⟨e2, f2⟩, w1, u1⟩ := HF34.out
        generalize ((lo + hi : Nat) : Int) = sm at *
        generalize ((hi - lo : Nat) : Int) = df at *
        clear hle hQ HF34
        go_wp2_with fail
        refine T1.out.mono ?_
        rintro e w5 ⟨A5, n5, c5, rfl, h5, hb5⟩
        have hn5 := h5.len HBM.out
        have T3 := Lib.hid (T2.out w5 hb5 A5 n5 c5 h5.ra (by omega))
        have HK5 := Lib.hid hb5
        clear h5 hb5 T1 T2
        go_wp2_with fail
        refine T3.out.mono ?_
        rintro e w6 ⟨rfl, hw6⟩
        rw [hw6]
        clear T3 hw6
        have HFK := Lib.hid (show Kp wv w5 ∧ lo * b ≤ x ∧ x < mid * b from ⟨HKQ.out.trans HK5.out, HQ2.out⟩)
        clear HKQ HQ2 HK5
        go_wp2
        go_roundw
        case rel => exact ⟨lo, mid, rfl, rfl, HMM.out.1, Nat.le_trans (Nat.le_of_lt HMM.out.2) HHI.out, HFK.out⟩
        case measure =>
         have := HME.out.1
         simp only [intOf, Int.toNat_natCast]
         exact this
      ·have d1 : decide ((1 : Int) < ((hi - lo : Nat) : Int)) = false := decide_eq_false (by omega)
       have d2 : decide (1 < hi - lo) = false := decide_eq_false hgt
       obtain ⟨hs1, hs2⟩ := seek_done HB0.out hQ.out.2.1 hQ.out.2.2 (by omega)
       have hlx : b * lo ≤ x := by rw [Nat.mul_comm]; exact hQ.out.2.1
       have T1 := Lib.hid (times_ra B m d b lo wr (((HRB.out.below HR4.out.1).below hQ.out.1).ra) (by omega) (by omega))
       have T2 := Lib.hid (fun (W : World) (hW : Kp wr W) (A1 : Option Addr) (n1 c1 : Nat) (h1 : RA W A1 n1 c1 (b * lo)) => sub_ra A2 A1 n2 cb1 n1 c1 x (b * lo) W ((HR4.out.2.2.2.ra.below hQ.out.1).below hW) h1 (by omega) hlx)
       have HKQ := Lib.hid hQ.out.1
       have HS1 := Lib.hid (hs1.trans HX1.out)
       have HS2 := Lib.hid (hs2.trans HX2.out)
       obtain ⟨e1, f1⟩ := W1.out
       generalize ((hi - lo : Nat) : Int) = df at *
       clear hs1 hs2 hlx hQ hgt W1
       go_wp2_with fail
       refine T1.out.mono ?_
       rintro e w6 ⟨A5, n5, c5, rfl, h5, hb5⟩
       have T3 := Lib.hid (T2.out w6 hb5 A5 n5 c5 h5.ra)
       have HK5 := Lib.hid hb5
       clear h5 hb5 T1 T2
       go_wp2_with fail
       refine T3.out.mono ?_
       rintro e w7 ⟨A6, n6, c6, rfl, h6, hb6, hf6⟩
       rw [HS2.out] at h6
       have hk6 : Kp wv w7 := (HKQ.out.trans HK5.out).trans hb6
       have hro := HR4.out.2.1.kp hk6
       have hqi := HR4.out.2.2.1
       have cq := hro.cell (i := j) (by rw [hqi.1]; omega)
       have fq := hro.frozen j
       have hgv : w.heap.size < wv.heap.size := HR4.out.2.1.lt
       have hgw : w.heap.size < w6.heap.size := Nat.lt_of_lt_of_le hgv (HKQ.out.trans HK5.out).size
       have HF := Lib.hid (show Below w.heap.size w (w7.setCell ⟨w.heap.size, j, none⟩ (.int .i64 (lo : Int))) ∧ DRow (w7.setCell ⟨w.heap.size, j, none⟩ (.int .i64 (lo : Int))) w.heap.size (hs.set j (lo : Int)) ∧ QuoI (a / b) n j (hs.set j (lo : Int)) ∧ HA (w7.setCell ⟨w.heap.size, j, none⟩ (.int .i64 (lo : Int))) A6 n6 c6 (rst a b j) from
        ⟨(HR4.out.1.trans (hk6.mono HR4.out.1.size)).setCell (p := ⟨w.heap.size, j, none⟩) (Nat.le_refl _) _, hro.set j _, hqi.step (by omega) HS1.out, h6.setAway hf6 (by show w.heap.size < _; exact hgw) _⟩)
       generalize hs[j]?.getD 0 = old at *
       clear hro hqi h6 hb6 hf6 hk6 T3 HK5 HKQ HS1 HS2 hgv hgw
       go_wp2
       go_roundw
       case rel => exact ⟨j, _, A6, n6, c6, by omega, by first | rfl | go_num, rfl, HF.out⟩
       case measure => simp [intOf]

theorem div_ra (A B : Option Addr) (n c m d a b : Nat) (w : World) (h : HA w A n c a) (h' : HA w B m d b) (hb0 : 0 < b) (hn : n ≤ 12000000000) (hm : m ≤ 12000000000) :
  Calls Tryz.prog 153 #[.slice A n c, .slice B m d] w (RetHH w (a / b) (a % b)) := by
 by_cases h1 : n ≤ 3
 ·by_cases h2 : m ≤ 3
  ·exact div_small A B n c m d a b w h.ra h'.ra hb0 h1 h2
  ·exact div_long A B n c m d a b w h h' hb0 hn hm (by omega) (Or.inr ⟨h1, by omega⟩)
 ·by_cases h2 : m = 1
  ·subst h2
   exact div_digit A B n c d a b w h.ra h'.ra hb0 (by omega) hn
  ·exact div_long A B n c m d a b w h h' hb0 hn hm h2 (Or.inl (by omega))

end Go.Proofs.YtodkhjihkkmplaaGreat
