/-
The reference of layer 2 at rationals of any size: one, den, num. The reference of layer 2 at rationals of any size: over. No statement of the seat is proved here; no conditions beyond those of each theorem.
-/
import Derived.Test.YtodkhjihkkmplaaGreatLPX
import Derived.Test.YtodkhjihkkmplaaGreatLPL
import Derived.Test.YtodkhjihkkmplaaGreatLPJ
import Derived.Test.YtodkhjihkkmplaaGreatLPO
namespace Go.Proofs.YtodkhjihkkmplaaGreat
set_option linter.unusedVariables false
set_option linter.unusedSimpArgs false
open Go.RowKit
open Wd

/-- A rational in memory as its two integers. -/
def QZ (w : World) (an : Bool) (A : Option Addr) (n : Nat) (bn : Bool) (B : Option Addr) (m : Nat) (na da : Int) : Prop := ZK w an A n na ∧ ZK w bn B m da
theorem QZ.below {w w' : World} {an bn : Bool} {A B : Option Addr} {n m : Nat} {na da : Int} (h : QZ w an A n bn B m na da) (hb : Below w.heap.size w w') : QZ w' an A n bn B m na da := ⟨h.1.below hb, h.2.below hb⟩

set_option maxHeartbeats 1000000 in
theorem rone_z (w : World) : Calls Tryz.prog 124 #[] w (RetN w 1) := by
 have T := Lib.hid (fun W => rfrom_any 1 W (by decide) (by decide))
 go_enter Tryz.func124, Tryz.ntmps124
 go_wp2_with fail
 obtain ⟨hB0, hBW, hsz⟩ := pre1 w 29 #[.bool false, .slice none 0 0]
 generalize w.alloc (.cells #[.bool false, .slice none 0 0] 29) = W at *
 have HSZ := Lib.hid hsz
 clear hsz
 have hr1 := RS.start hB0
 refine (T.out _).mono ?_
 intro e w3 hr
 obtain ⟨A3, k3, c3, rfl, hk3, hW3, hF3, hb3⟩ := RetZ.toN (v := 1) hr
 have hr3 := hr1.call hb3
 obtain ⟨_, _, c0, c1, f0, f1⟩ := hr3.two
 have hfin := (retZ_close (z := ((1 : Nat) : Int)) hBW (by omega) (by have := HSZ.out; omega) hr3 hk3 hW3 hF3).toN
 simp only [show decide (((1 : Nat) : Int) < 0) = false by decide] at hfin
 obtain ⟨d0, d1, -, -⟩ := (hr3.done (.bool false) (.slice A3 k3 c3)).two
 have HF := Lib.hid hfin
 clear hfin hr hr1 hr3 hW3 hF3 hb3 T
 go_wp2
 refine bodyPost_ret (v := .agg #[.bool false, .slice A3 k3 c3]) ?_ rfl HF.out
 simp [results, Tryz.results124, go_sem, d0, d1]

set_option maxHeartbeats 1000000 in
theorem rden_z (an bn : Bool) (A B : Option Addr) (n c m d : Nat) (na da : Int) (w : World) (h : QZ w an A n bn B m na da) :
  Calls Tryz.prog 79 #[.agg #[.bool an, .slice A n c, .bool bn, .slice B m d]] w (RetN w (qden da).natAbs) := by
 go_enter Tryz.func79, Tryz.ntmps79
 go_wp2_with fail
 obtain ⟨hB0, hB1, hBW, hsz⟩ := pre2 w 31 #[.bool an, .slice A n c, .bool bn, .slice B m d] 29 #[.bool false, .slice none 0 0]
 generalize (w.alloc (.cells #[.bool an, .slice A n c, .bool bn, .slice B m d] 31)).alloc (.cells #[.bool false, .slice none 0 0] 29) = W at *
 have HSZ := Lib.hid hsz
 clear hsz
 have T := Lib.hid (fun W' (hW : Kp W W') => rsign_z bn B m d da W' (h.2.below (hBW.trans (Below.mono hW hBW.size))))
 have TA := Lib.hid (fun W' (hW : Kp W W') => rabs_z bn B m d da W' (h.2.below (hBW.trans (Below.mono hW hBW.size))))
 have TO := Lib.hid (fun W' => rone_z W')
 obtain ⟨p0, p1, p2, p3, -, -, -, -⟩ := hB0.four
 clear h
 go_wp2_with fail
 refine (T.out _ (Kp.refl W)).mono ?_
 rintro e w1 ⟨rfl, hb1⟩
 have hr1 := (RS.start hB1).call hb1
 have hB0 := hB0.below hb1 hB0.lt
 obtain ⟨p0, p1, p2, p3, -, -, -, -⟩ := hB0.four
 have HK1 := Lib.hid (show Kp W w1 from hb1)
 have HBW := Lib.hid hBW
 clear hb1 T hB0 hB1 hBW
 by_cases h0 : da = 0
 ·subst h0
  rw [show cmpI (0 : Int) 0 = 0 from rfl, show (qden 0).natAbs = 1 from rfl]
  go_wp2_with fail
  refine (TO.out _).mono ?_
  rintro e w3 ⟨A3, k3, c3, rfl, hk3, hW3, hF3, hb3⟩
  have hr3 := hr1.call hb3
  obtain ⟨_, _, c0, c1, f0, f1⟩ := hr3.two
  have hfin := (retZ_close (z := ((1 : Nat) : Int)) HBW.out (by omega) (by have := HSZ.out; have := Below.size HK1.out; omega) hr3 hk3 hW3 hF3).toN
  simp only [show decide (((1 : Nat) : Int) < 0) = false by decide] at hfin
  obtain ⟨d0, d1, -, -⟩ := (hr3.done (.bool false) (.slice A3 k3 c3)).two
  have HF := Lib.hid hfin
  clear hfin hr1 hr3 hW3 hF3 hb3 TA TO
  go_wp2
  refine bodyPost_ret (v := .agg #[.bool false, .slice A3 k3 c3]) ?_ rfl HF.out
  simp [results, Tryz.results79, go_sem, d0, d1]
 ·have hq : (qden da).natAbs = da.natAbs := by unfold qden; rw [if_neg h0]; split <;> omega
  have d1 : (cmpI da 0 == 0) = false := by unfold cmpI; split <;> (try split) <;> simp_all; omega
  generalize cmpI da 0 = sv at *
  have TA1 := Lib.hid (TA.out w1 HK1.out)
  generalize da.natAbs = v at *
  have HQ := Lib.hid hq
  clear hq h0 TA
  go_wp2_with fail
  refine TA1.out.mono ?_
  intro e w3 hr
  obtain ⟨A3, k3, c3, rfl, hk3, hW3, hF3, hb3⟩ := RetZ.toN (v := v) hr
  have hr3 := hr1.call hb3
  obtain ⟨_, _, c0, c1, f0, f1⟩ := hr3.two
  have hfin := (retZ_close (z := ((v : Nat) : Int)) HBW.out (by omega) (by have := HSZ.out; have := Below.size HK1.out; omega) hr3 hk3 hW3 hF3).toN
  simp only [show decide (((v : Nat) : Int) < 0) = false by simp] at hfin
  obtain ⟨d0, d1, -, -⟩ := (hr3.done (.bool false) (.slice A3 k3 c3)).two
  have HF := Lib.hid hfin
  clear hfin hr hr1 hr3 hW3 hF3 hb3 TA1 TO
  go_wp2
  refine bodyPost_ret (v := .agg #[.bool false, .slice A3 k3 c3]) ?_ rfl (by rw [HQ.out]; exact HF.out)
  simp [results, Tryz.results79, go_sem, d0, d1]

set_option maxHeartbeats 1000000 in
theorem rnum_z (an bn : Bool) (A B : Option Addr) (n c m d : Nat) (na da : Int) (w : World) (h : QZ w an A n bn B m na da) :
  Calls Tryz.prog 67 #[.agg #[.bool an, .slice A n c, .bool bn, .slice B m d]] w (RetZ w (qnum na da)) := by
 go_enter Tryz.func67, Tryz.ntmps67
 go_wp2_with fail
 obtain ⟨hB0, hB1, hBW, hsz⟩ := pre2 w 31 #[.bool an, .slice A n c, .bool bn, .slice B m d] 29 #[.bool false, .slice none 0 0]
 generalize (w.alloc (.cells #[.bool an, .slice A n c, .bool bn, .slice B m d] 31)).alloc (.cells #[.bool false, .slice none 0 0] 29) = W at *
 have HSZ := Lib.hid hsz
 clear hsz
 have T := Lib.hid (fun W' (hW : Kp W W') => rsign_z bn B m d da W' (h.2.below (hBW.trans (Below.mono hW hBW.size))))
 have TA := Lib.hid (fun W' (hW : Kp W W') => rneg_z an A n c na W' (h.1.below (hBW.trans (Below.mono hW hBW.size))))
 have TO := Lib.hid (fun W' (hW : Kp W W') => rleast_z an A n c na W' (h.1.below (hBW.trans (Below.mono hW hBW.size))))
 obtain ⟨p0, p1, p2, p3, -, -, -, -⟩ := hB0.four
 clear h
 go_wp2_with fail
 refine (T.out _ (Kp.refl W)).mono ?_
 rintro e w1 ⟨rfl, hb1⟩
 have hr1 := (RS.start hB1).call hb1
 have hB0 := hB0.below hb1 hB0.lt
 obtain ⟨p0, p1, p2, p3, -, -, -, -⟩ := hB0.four
 have HK1 := Lib.hid (show Kp W w1 from hb1)
 have HBW := Lib.hid hBW
 clear hb1 T hB0 hB1 hBW
 by_cases h0 : da < 0
 ·have hq : qnum na da = -na := by unfold qnum; rw [if_pos h0]
  have d1 : decide (cmpI da 0 < 0) = true := by rw [cmpI_lt h0]; decide
  have T1 := Lib.hid (TA.out w1 HK1.out)
  generalize -na = y at *
  generalize cmpI da 0 = sv at *
  have HQ := Lib.hid hq
  clear hq h0 TA TO
  go_wp2_with fail
  refine T1.out.mono ?_
  rintro e w3 ⟨A3, k3, c3, rfl, hk3, hW3, hF3, hb3⟩
  have hr3 := hr1.call hb3
  obtain ⟨_, _, c0, c1, f0, f1⟩ := hr3.two
  have hfin := retZ_close HBW.out (by omega) (by have := HSZ.out; have := Below.size HK1.out; omega) hr3 hk3 hW3 hF3
  generalize decide (y < 0) = sb at *
  obtain ⟨d0, d1, -, -⟩ := (hr3.done (.bool sb) (.slice A3 k3 c3)).two
  have HF := Lib.hid hfin
  clear hfin hr1 hr3 hW3 hF3 hb3 T1
  go_wp2
  refine bodyPost_ret (v := .agg #[.bool sb, .slice A3 k3 c3]) ?_ rfl (by rw [HQ.out]; exact HF.out)
  simp [results, Tryz.results67, go_sem, d0, d1]
 ·have hq : qnum na da = na := by unfold qnum; rw [if_neg h0]
  have d1 : decide (cmpI da 0 < 0) = false := by unfold cmpI; rw [if_neg h0]; split <;> decide
  have T1 := Lib.hid (TO.out w1 HK1.out)
  obtain ⟨y, hy⟩ : ∃ y, y = na := ⟨_, rfl⟩
  replace hq : qnum na da = y := by rw [hq, hy]
  rw [← hy] at T1
  clear hy
  generalize cmpI da 0 = sv at *
  have HQ := Lib.hid hq
  clear hq h0 TA TO
  go_wp2_with fail
  refine T1.out.mono ?_
  rintro e w3 ⟨A3, k3, c3, rfl, hk3, hW3, hF3, hb3⟩
  have hr3 := hr1.call hb3
  obtain ⟨_, _, c0, c1, f0, f1⟩ := hr3.two
  have hfin := retZ_close HBW.out (by omega) (by have := HSZ.out; have := Below.size HK1.out; omega) hr3 hk3 hW3 hF3
  generalize decide (y < 0) = sb at *
  obtain ⟨d0, d1, -, -⟩ := (hr3.done (.bool sb) (.slice A3 k3 c3)).two
  have HF := Lib.hid hfin
  clear hfin hr1 hr3 hW3 hF3 hb3 T1
  go_wp2
  refine bodyPost_ret (v := .agg #[.bool sb, .slice A3 k3 c3]) ?_ rfl (by rw [HQ.out]; exact HF.out)
  simp [results, Tryz.results67, go_sem, d0, d1]

end Go.Proofs.YtodkhjihkkmplaaGreat

namespace Go.Proofs.YtodkhjihkkmplaaGreat
set_option linter.unusedVariables false
set_option linter.unusedSimpArgs false
open Go.RowKit
open Wd

theorem RetD.nat {w : World} {v : Nat} {e : Ending} {w' : World} (h : RetD w (v : Int) e w') : ∃ A1 k1 c1 A2 k2 c2, e = .returned (.tuple #[.agg #[.bool false, .slice A1 k1 c1], .agg #[.bool false, .slice A2 k2 c2], .int .i64 0]) ∧ k1 ≤ c1 ∧ Wat w' A1 k1 (digs v) ∧ Fresh w.heap.size w' A1 k1 ∧ Below w.heap.size w w' := by
 obtain ⟨A1, k1, c1, A2, k2, c2, h1, h2, h3, h4⟩ := h
 rw [show decide ((v : Int) < 0) = false by simp] at h1
 exact ⟨A1, k1, c1, A2, k2, c2, h1, h2, h3, h4⟩
set_option maxRecDepth 100000 in
set_option maxHeartbeats 2000000 in
theorem rover_z (an : Bool) (A B : Option Addr) (n c m d : Nat) (z : Int) (dv : Nat) (w : World) (h : ZK w an A n z) (h' : ZK w false B m (dv : Int)) (hd0 : dv ≠ 0) :
  Calls Tryz.prog 77 #[.agg #[.bool an, .slice A n c], .agg #[.bool false, .slice B m d]] w (RetQ w (mkRat z dv)) := by
 have hla := h.len
 have hlb := h'.len
 rw [Int.natAbs_natCast] at hlb
 obtain ⟨g, hg⟩ : ∃ g, g = Nat.gcd z.natAbs dv := ⟨_, rfl⟩
 have hg0 : g ≠ 0 := by rw [hg]; exact Nat.gcd_ne_zero_right hd0
 have hg1 : g ∣ z.natAbs := by rw [hg]; exact Nat.gcd_dvd_left _ _
 have hg2 : g ∣ dv := by rw [hg]; exact Nat.gcd_dvd_right _ _
 have hgl : (hd ((g : Nat) : Int).natAbs).length ≤ 6000000000 := by rw [Int.natAbs_natCast]; exact Nat.le_trans (hd_len_mono (Nat.le_of_dvd (Nat.pos_of_ne_zero hd0) hg2)) hlb
 have hnum : sg an (z.natAbs / g) = (mkRat z dv).num := by rw [mk_num _ _ hd0, ← hg, ← sg_tdiv, h.sg]
 have hden : dv / g = (mkRat z dv).den := by rw [mk_den _ _ hd0, ← hg]
 have hden' : sg false ((((dv : Nat) : Int)).natAbs / g) = ((dv / g : Nat) : Int) := by rw [Int.natAbs_natCast]; rfl
 rw [hden] at hden'
 have hdl : (hd (mkRat z dv).den).length ≤ 6000000000 := by rw [← hden]; exact Nat.le_trans (hd_len_mono (Nat.div_le_self _ _)) hlb
 have hdp : 0 < (mkRat z dv).den := (mkRat z dv).den_pos
 have TG := Lib.hid (fun W' (hW : Below w.heap.size w W') => gcd_z an false A B n c m d z (dv : Int) W' (h.below hW) (h'.below hW))
 rw [Int.natAbs_natCast, ← hg] at TG
 have TN := Lib.hid (fun W' (hW : Below w.heap.size w W') (G : Option Addr) (gn gc : Nat) (hG : Wat W' G gn (digs g)) => rdiv_z an A G n c gn gc z (mkRat z dv).num g W' (h.below hW) (zk_of (z := (g : Int)) (by rw [Int.natAbs_natCast]; exact hG) hgl) hg0 hg1 hnum)
 have TD := Lib.hid (fun W' (hW : Below w.heap.size w W') (G : Option Addr) (gn gc : Nat) (hG : Wat W' G gn (digs g)) => rdiv_z false B G m d gn gc (dv : Int) ((mkRat z dv).den : Int) g W' (h'.below hW) (zk_of (z := (g : Int)) (by rw [Int.natAbs_natCast]; exact hG) hgl) hg0 (by rw [Int.natAbs_natCast]; exact hg2) hden')
 have TC := Lib.hid (fun W' (D O : Option Addr) (dn dc on oc : Nat) (hD : Wat W' D dn (digs (mkRat z dv).den)) (hO : Wat W' O on (digs 1)) => rcmp_z D O dn dc on oc (mkRat z dv).den 1 W' (zk_of (z := ((mkRat z dv).den : Int)) (by rw [Int.natAbs_natCast]; exact hD) (by rw [Int.natAbs_natCast]; exact hdl)) (zk_of (z := ((1 : Nat) : Int)) hO (by rw [Int.natAbs_natCast]; exact Nat.le_trans ((hd_len_le (n := 1) (k := 1)).2 (by decide)) (by decide))) hdp (by decide))
 have TO := Lib.hid (fun W' => rone_z W')
 generalize mkRat z dv = q at *
 clear h h' hla hlb hg hg0 hg1 hg2 hgl hnum hden hden' hdl hd0
 go_enter Tryz.func77, Tryz.ntmps77
 go_wp2_with fail
 obtain ⟨hB0, hB1, hB2, hBW, hsz⟩ := pre3 w 29 #[.bool an, .slice A n c] 29 #[.bool false, .slice B m d] 31 #[.bool false, .slice none 0 0, .bool false, .slice none 0 0]
 generalize ((w.alloc (.cells #[.bool an, .slice A n c] 29)).alloc (.cells #[.bool false, .slice B m d] 29)).alloc (.cells #[.bool false, .slice none 0 0, .bool false, .slice none 0 0] 31) = W at *
 have HSZ := Lib.hid hsz
 clear hsz
 obtain ⟨p0, p1, -, -⟩ := hB0.two
 obtain ⟨p2, p3, -, -⟩ := hB1.two
 have hr1 := RS4.start hB2
 have HBW0 := Lib.hid hBW
 go_wp2_with fail
 refine (TG.out W hBW).mono ?_
 rintro e w1 ⟨A1, k1, c1, rfl, hk1, hW1, hF1, hb1⟩
 have hB0 := (hB0.below hb1 hB0.lt).alloc (.cells #[.bool false, .slice A1 k1 c1] 29)
 have hB1 := (hB1.below hb1 hB1.lt).alloc (.cells #[.bool false, .slice A1 k1 c1] 29)
 have hB5 := Blk.new w1 29 #[.bool false, .slice A1 k1 c1]
 have ha := hb1.alloc hb1.size (.cells #[.bool false, .slice A1 k1 c1] 29)
 have hr1 := hr1.call ha
 have hBW1 := hBW.trans (ha.mono hBW.size)
 have hW1 := hW1.alloc (.cells #[.bool false, .slice A1 k1 c1] 29)
 obtain ⟨p0, p1, -, -⟩ := hB0.two
 obtain ⟨p4, p5, -, -⟩ := hB5.two
 clear TG hb1 ha hF1 hBW p2 p3
 go_wp2_with fail
 generalize w1.alloc (.cells #[.bool false, .slice A1 k1 c1] 29) = Wa at *
 refine (TN.out Wa hBW1 A1 k1 c1 hW1).mono ?_
 rintro e w2 ⟨A2, k2, c2, A3, k3, c3, rfl, hk2, hW2, hF2, hb2⟩
 have hF2 := hF2.mono (base' := w.heap.size + 1 + 1 + 1) (by have := HSZ.out; have := Below.size hr1.1; have := hr1.2; obtain ⟨_, _, _, _, hx⟩ := this; have := hx.lt; omega)
 have hB1 := ((hB1.below hb2 hB1.lt).alloc (.cells #[.bool (decide (q.num < 0)), .slice A2 k2 c2] 29)).alloc (.cells #[.bool false, .slice A3 k3 c3] 29)
 have hB5 := ((hB5.below hb2 hB5.lt).alloc (.cells #[.bool (decide (q.num < 0)), .slice A2 k2 c2] 29)).alloc (.cells #[.bool false, .slice A3 k3 c3] 29)
 have hB6 := (Blk.new w2 29 #[.bool (decide (q.num < 0)), .slice A2 k2 c2]).alloc (.cells #[.bool false, .slice A3 k3 c3] 29)
 have ha := (hb2.alloc hb2.size (.cells #[.bool (decide (q.num < 0)), .slice A2 k2 c2] 29)).alloc (Nat.le_trans hb2.size (by simp only [World.size_alloc]; omega)) (.cells #[.bool false, .slice A3 k3 c3] 29)
 have hr1 := hr1.call ha
 have hBW2 := hBW1.trans (ha.mono hBW1.size)
 have hW1 := hW1.below ha
 have hx2 : Below w2.heap.size w2 ((w2.alloc (.cells #[.bool (decide (q.num < 0)), .slice A2 k2 c2] 29)).alloc (.cells #[.bool false, .slice A3 k3 c3] 29)) := ((Below.refl _ _).alloc (Nat.le_refl _) _).alloc (by simp only [World.size_alloc]; omega) _
 have hF2 := hF2.keep hW2 hx2
 have hW2 := hW2.below hx2
 obtain ⟨p2, p3, -, -⟩ := hB1.two
 obtain ⟨p4, p5, -, -⟩ := hB5.two
 clear TN hb2 ha hx2 p0 p1 hB0 hBW1
 generalize hsb : decide (q.num < 0) = sb at *
 go_wp2_with fail
 generalize (w2.alloc (.cells #[.bool sb, .slice A2 k2 c2] 29)).alloc (.cells #[.bool false, .slice A3 k3 c3] 29) = Wb at *
 refine (TD.out Wb hBW2 A1 k1 c1 hW1).mono ?_
 intro e w3 hr3
 obtain ⟨A4, k4, c4, A5, k5, c5, rfl, hk4, hW4, hF4, hb3⟩ := hr3.nat
 have hB6 := ((hB6.below hb3 hB6.lt).alloc (.cells #[.bool false, .slice A4 k4 c4] 29)).alloc (.cells #[.bool false, .slice A5 k5 c5] 29)
 have hB9 := (Blk.new w3 29 #[.bool false, .slice A4 k4 c4]).alloc (.cells #[.bool false, .slice A5 k5 c5] 29)
 have hx3 : Below w3.heap.size w3 ((w3.alloc (.cells #[.bool false, .slice A4 k4 c4] 29)).alloc (.cells #[.bool false, .slice A5 k5 c5] 29)) := ((Below.refl _ _).alloc (Nat.le_refl _) _).alloc (by simp only [World.size_alloc]; omega) _
 have ha := hb3.trans (hx3.mono hb3.size)
 have hF4 := hF4.mono (base' := w.heap.size + 1 + 1 + 1) (by obtain ⟨_, _, _, _, hx⟩ := hr1.2; have := hx.lt; omega)
 have hr1 := hr1.call ha
 have hBW3 := hBW2.trans (ha.mono hBW2.size)
 have hF2 := hF2.keep hW2 ha
 have hW2 := hW2.below ha
 have hF4 := hF4.keep hW4 hx3
 have hW4 := hW4.below hx3
 clear TD hb3 ha hx3 hB1 hB5 p2 p3 p4 p5 hW1 hBW2 hr3
 go_wp2_with fail
 generalize (w3.alloc (.cells #[.bool false, .slice A4 k4 c4] 29)).alloc (.cells #[.bool false, .slice A5 k5 c5] 29) = Wc at *
 have s5 := Kp.refl Wc
 have HW2 := Lib.hid hW2
 have HW4 := Lib.hid (fun (w' : World) (hk : Kp Wc w') => hW4.below hk)
 have HF2 := Lib.hid (fun (w' : World) (hk : Kp Wc w') => hF2.keep hW2 hk)
 have HF4 := Lib.hid (fun (w' : World) (hk : Kp Wc w') => hF4.keep hW4 hk)
 have HR1 := Lib.hid hr1
 have HSB := Lib.hid hsb
 clear hW2 hW4 hF2 hF4 hBW3 hr1 hB2 hsb hdp
 by_cases h1 : q.den = 1
 ·have d1 : (cmpN q.den 1 == 0) = true := by rw [h1]; decide
  have HQ := Lib.hid (show denW q.den = [] by unfold denW; rw [if_pos h1])
  generalize cmpN q.den 1 = cv at *
  clear h1
  have hS : ∀ w', Kp Wc w' → (w'.cell? ⟨w3.heap.size, 0, none⟩ = some (.bool false) ∧ w'.cell? ⟨w3.heap.size, 1, none⟩ = some (.slice A4 k4 c4)) ∧ Kp Wc w' := fun w' hk => ⟨⟨(hk.blk hB9).cell 0, (hk.blk hB9).cell 1⟩, hk⟩
  have HS := Lib.hid hS
  clear hS
  go_region_held3 (fun w' => (w'.cell? ⟨w3.heap.size, 0, none⟩ = some (.bool false) ∧ w'.cell? ⟨w3.heap.size, 1, none⟩ = some (.slice A4 k4 c4)) ∧ Kp Wc w')
   (first | (with_reducible refine HS.out _ ?_; with_reducible assumption) | (with_reducible refine HS.out _ (Kp.drew ?_); with_reducible assumption) | (with_reducible refine' HS.out _ (Kp.drew (And.right ?_)); rotate_left; with_reducible assumption))
   (first
    | (go_at_call 124; have hk := And.right ‹_ ∧ Kp Wc _›; refine (TO.out _).mono ?_; rintro e v6 ⟨A6, k6, c6, rfl, hk6, hW6, hF6, hb6⟩; have hp := Kp.trans hk hb6; clear hk hb6 hk6 hF6)
    | (go_at_call 123; have hk := And.right ‹_ ∧ Kp Wc _›; refine (TC.out _ A4 A6 k4 c4 k6 c6 (HW4.out _ hk) hW6).mono ?_; rintro e v7 ⟨rfl, hb7⟩; have hp := Kp.trans hk hb7; clear hk hb7 hW6))
  all_goals
   have hB6 := hp.blk hB6
   obtain ⟨p0, p1, -, -⟩ := hB6.two
   have hr3 := HR1.out.call hp
   obtain ⟨_, _, _, _, f0, f1, f2, f3, f4, f5, f6, f7⟩ := hr3.four
   have hfin := retQ_close (q := q) HBW0.out (by omega) (Nat.lt_succ_self _) hr3 hk2 (Nat.le_refl 0) (HW2.out.below hp) (A' := none) (by rw [HQ.out]; exact Wat.nil) (HF2.out _ hp) Fresh.nil
   rw [HSB.out] at hfin
   obtain ⟨g0, g1, g2, g3, -, -, -, -⟩ := (hr3.done (.bool sb) (.slice A2 k2 c2) (.bool false) (.slice none 0 0)).four
   have HF := Lib.hid hfin
   clear hfin hp hB6 hB9 hr3
   go_wp2
   refine bodyPost_ret (v := .agg #[.bool sb, .slice A2 k2 c2, .bool false, .slice none 0 0]) ?_ rfl HF.out
   simp [results, Tryz.results77, go_sem, g0, g1, g2, g3]
 ·have d1 : (cmpN q.den 1 == 0) = false := by
   unfold cmpN
   split
   ·decide
   ·split
    ·decide
    ·exfalso; omega
  have HQ := Lib.hid (show denW q.den = digs q.den by unfold denW; rw [if_neg h1])
  generalize cmpN q.den 1 = cv at *
  clear h1
  have hS : ∀ w', Kp Wc w' → (w'.cell? ⟨w3.heap.size, 0, none⟩ = some (.bool false) ∧ w'.cell? ⟨w3.heap.size, 1, none⟩ = some (.slice A4 k4 c4)) ∧ Kp Wc w' := fun w' hk => ⟨⟨(hk.blk hB9).cell 0, (hk.blk hB9).cell 1⟩, hk⟩
  have HS := Lib.hid hS
  clear hS
  go_region_held3 (fun w' => (w'.cell? ⟨w3.heap.size, 0, none⟩ = some (.bool false) ∧ w'.cell? ⟨w3.heap.size, 1, none⟩ = some (.slice A4 k4 c4)) ∧ Kp Wc w')
   (first | (with_reducible refine HS.out _ ?_; with_reducible assumption) | (with_reducible refine HS.out _ (Kp.drew ?_); with_reducible assumption) | (with_reducible refine' HS.out _ (Kp.drew (And.right ?_)); rotate_left; with_reducible assumption))
   (first
    | (go_at_call 124; have hk := And.right ‹_ ∧ Kp Wc _›; refine (TO.out _).mono ?_; rintro e v6 ⟨A6, k6, c6, rfl, hk6, hW6, hF6, hb6⟩; have hp := Kp.trans hk hb6; clear hk hb6 hk6 hF6)
    | (go_at_call 123; have hk := And.right ‹_ ∧ Kp Wc _›; refine (TC.out _ A4 A6 k4 c4 k6 c6 (HW4.out _ hk) hW6).mono ?_; rintro e v7 ⟨rfl, hb7⟩; have hp := Kp.trans hk hb7; clear hk hb7 hW6))
  all_goals
   have hB6 := hp.blk hB6
   obtain ⟨p0, p1, -, -⟩ := hB6.two
   have hB9 := hp.blk hB9
   obtain ⟨p2, p3, -, -⟩ := hB9.two
   have hr3 := HR1.out.call hp
   obtain ⟨_, _, _, _, f0, f1, f2, f3, f4, f5, f6, f7⟩ := hr3.four
   have hfin := retQ_close (q := q) HBW0.out (by omega) (Nat.lt_succ_self _) hr3 hk2 hk4 (HW2.out.below hp) (by rw [HQ.out]; exact HW4.out _ hp) (HF2.out _ hp) (HF4.out _ hp)
   rw [HSB.out] at hfin
   obtain ⟨g0, g1, g2, g3, -, -, -, -⟩ := (hr3.done (.bool sb) (.slice A2 k2 c2) (.bool false) (.slice A4 k4 c4)).four
   have HF := Lib.hid hfin
   clear hfin hp hB6 hB9 hr3
   go_wp2
   refine bodyPost_ret (v := .agg #[.bool sb, .slice A2 k2 c2, .bool false, .slice A4 k4 c4]) ?_ rfl HF.out
   simp [results, Tryz.results77, go_sem, g0, g1, g2, g3]

end Go.Proofs.YtodkhjihkkmplaaGreat
