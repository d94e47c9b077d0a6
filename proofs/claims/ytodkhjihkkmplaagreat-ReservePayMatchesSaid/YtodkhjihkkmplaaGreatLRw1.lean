/-
ReservePayMatches: its walk. No statement of the seat is proved here; no conditions beyond those of each theorem.
-/
import Derived.Test.YtodkhjihkkmplaaGreatLQC
import Derived.Test.YtodkhjihkkmplaaGreatLRt7
import Derived.Test.YtodkhjihkkmplaaGreatLRc4
import Derived.Test.YtodkhjihkkmplaaGreatLWr
import Derived.Test.YtodkhjihkkmplaaGreatLPf2
namespace Go.Proofs.YtodkhjihkkmplaaGreat
set_option linter.unusedVariables false
set_option linter.unusedSimpArgs false
open Go.RowKit
open Wd

theorem rq_same {w w' : World} {q : Rat} {A A' B B' : Option Addr} {k c k' c' j d j' d' : Nat} (h : RQ w q A k c A' k' c') (h' : RQ w' q B j d B' j' d') : j = k ∧ j' = k' := ⟨h'.2.2.1.1.symm.trans h.2.2.1.1, h'.2.2.2.1.symm.trans h.2.2.2.1⟩
/-- A row of one rational whose words may be overwritten. -/
theorem fr_one {base : Nat} {w : World} {a a' : Bool} {A A' : Option Addr} {k c k' c' : Nat} (hk : k ≤ c) (hk' : k' ≤ c') (h : Wr base w.heap.size w A k) (h' : Wr base w.heap.size w A' k') : FrRow base (w.alloc (.cells #[.bool a, .slice A k c, .bool a', .slice A' k' c'] 31)) w.heap.size 1 := by
  refine ⟨_, Blk.new _ _ _, rfl, fun j hj => ?_⟩
  obtain rfl : j = 0 := by omega
  exact ⟨a, A, k, c, a', A', k', c', rfl, rfl, rfl, rfl, hk, hk', h.below ((Kp.refl w).alloc _), h'.below ((Kp.refl w).alloc _)⟩
theorem Wr.new {base F g : Nat} {w : World} {A : Option Addr} {k : Nat} {l : List Nat} (hF : Fresh F w A k) (hW : Wat w A k l) (h1 : base ≤ F) (hg : w.heap.size ≤ g) (h0 : k ≤ 1000000000000) : Wr base g w A k := by
  refine ⟨h0, fun hk => ?_⟩
  obtain ⟨b, o, rfl, h3, h4⟩ := hF hk
  obtain ⟨b', o', he, h5, h6⟩ := hW.2.2 hk
  cases he
  exact ⟨b, o, rfl, by omega, by omega, h5, fun j hj => ⟨⟨_, h6 j hj⟩, h4 j hj⟩⟩

set_option maxRecDepth 100000 in
set_option maxHeartbeats 8000000 in
theorem paym30_any (A : Option Addr) (n c : Nat) (es : List QE) (price : Int) (w : World) (hg : QsAtR w A n es) (hgs : es.any bigQ = false → ∃ qs, GsAt 0 w A n qs) (hpr : Fits price) :
    Calls Tryz.prog 4 #[.slice A n c, .int .i64 price] w fun e w' => e = .returned (.bool true) ∧ Below w.heap.size w w' := by
  have TL := Lib.hid (long30_any none none A 0 0 0 0 n c [] [] es w ⟨rfl, fun hx => absurd rfl hx⟩ rfl hg)
  by_cases hL : long30B [] 0 es = true
  · rw [hL] at TL
    clear hg hgs hL hpr
    go_enter Tryz.func4, Tryz.ntmps4
    go_wp2_with fail
    refine TL.out.mono ?_
    rintro e w1 ⟨rfl, hb1⟩
    have HB1 := Lib.hid hb1
    clear hb1 TL
    go_wp2_with fail
    refine (awake30_any _).mono ?_
    rintro e w2 ⟨rfl, hb2⟩
    have HF := Lib.hid (HB1.out.trans (hb2.mono HB1.out.size))
    clear hb2
    go_wp2
    go_ret
    exact ⟨rfl, HF.out⟩
  have hL : long30B [] 0 es = false := by simpa using hL
  rw [hL] at TL
  obtain ⟨-, l2, l3⟩ := long30_no hL
  obtain ⟨qs, hq⟩ := hgs l3
  have hn : n ≤ 30 := by have := hg.1; omega
  have TR := Lib.hid (fun W (hW : Below w.heap.size w W) => rpay_any A n c qs price W (hq.below hW) hn hpr)
  have TP := Lib.hid (fun W (hW : Below w.heap.size w W) => pay_fr A n c qs price W (hq.below hW) hn hpr)
  have HLP := Lib.hid (ls_int (s := 3) (by omega) (z := price) (by obtain ⟨h1, h2⟩ := hpr; omega))
  have hlq : ∀ j, j < n → Ls 7 (qs[j]?.getD 0) := fun j hj => by
    obtain ⟨_, _, _, _, hc⟩ := hq.2 (by omega)
    obtain ⟨_, _, _, _, _, _, _, _, _, _, _, _, hq⟩ := hc j hj
    exact hq.lv
  have HSL := Lib.hid (pyS_ls (p := (price : Rat)) HLP.out hlq (Nat.le_refl n))
  have hlen : (pyS (price : Rat) qs n).1.length = n := by rw [pyS_len]; exact hq.1
  have HSZ := Lib.hid (show ∀ p ∈ (pyS (price : Rat) qs n).1, (digs p.num.natAbs).length ≤ 1000000 ∧ (denW p.den).length ≤ 1000000 from fun p hp => by
    obtain ⟨j, hj, rfl⟩ := List.getElem_of_mem hp
    have e := pyS_get (price : Rat) qs n j (by omega) (by rw [hq.1]; exact Nat.le_refl _)
    rw [List.getElem?_eq_getElem hj] at e
    simp only [Option.getD_some] at e
    rw [e]
    have hl : Ls (3 + 7 + 1) ((price : Rat) * (qs[j]?.getD 0)) := HLP.out.mul (hlq j (by omega))
    have h1 : (digs ((price : Rat) * (qs[j]?.getD 0)).num.natAbs).length ≤ 3 + 7 + 1 := digs_len_le.2 hl.1
    have h2 : (digs ((price : Rat) * (qs[j]?.getD 0)).den).length ≤ 3 + 7 + 1 := digs_len_le.2 hl.2
    refine ⟨by omega, ?_⟩
    unfold denW
    split
    · exact Nat.zero_le _
    · omega)
  have HPM := Lib.hid hn
  unfold RPayP at TR
  unfold PayF at TP
  generalize (pyS (price : Rat) qs n).1 = ms at *
  generalize (pyS (price : Rat) qs n).2 = sm at *
  clear hg hgs hL l2 l3 hq hn hlq hpr hlen
  go_enter Tryz.func4, Tryz.ntmps4
  go_wp2_with fail
  refine TL.out.mono ?_
  rintro e w1 ⟨rfl, hb1⟩
  have T1 := Lib.hid (TR.out w1 hb1)
  have HB1 := Lib.hid hb1
  clear hb1 TL TR
  go_wp2_with fail
  refine T1.out.mono ?_
  rintro e w2 ⟨Ah, ch, A1, k1, c1, A2, k2, c2, rfl, hr1, hr2, hb2⟩
  have H2 := Lib.hid (And.intro (HB1.out.trans (hb2.mono HB1.out.size)) (And.intro hr1 hr2))
  clear hr1 hr2 hb2 T1 HB1
  go_wp2_with fail
  have hbx := Blk.new w2 31 #[.bool (decide (sm.num < 0)), .slice A1 k1 c1, .bool false, .slice A2 k2 c2]
  have hkx := (Kp.refl w2).alloc (.cells #[.bool (decide (sm.num < 0)), .slice A1 k1 c1, .bool false, .slice A2 k2 c2] 31)
  have HV := Lib.hid (And.intro (H2.out.1.trans (Below.mono hkx (Below.size H2.out.1))) (And.intro (H2.out.2.1.below hkx) (And.intro (H2.out.2.2.below hkx) hbx)))
  clear H2 hbx hkx
  generalize w2.alloc (.cells #[.bool (decide (sm.num < 0)), .slice A1 k1 c1, .bool false, .slice A2 k2 c2] 31) = V at *
  generalize w2.heap.size = g at *
  clear w2
  go_loopw [7] (fun t wr => ∃ i : Nat, i ≤ 2 ∧ t = .int .i64 (i : Int) ∧ Hid (Kp V wr)) (fun t _ => 2 - (intOf t).toNat)
  case atStart => exact ⟨0, Nat.zero_le _, rfl, Lib.hid (Kp.refl V)⟩
  case round =>
    obtain ⟨i, hi, rfl, HK⟩ := hrel
    by_cases hlt : i < 2
    · have T2 := Lib.hid (TP.out wr (HV.out.1.trans (Below.mono HK.out (Below.size HV.out.1))))
      have i1 : IntKind.i64.wrap ((i : Int) + 1) = ((i + 1 : Nat) : Int) := IntWalk.i64_in _ (by omega)
      have hki2 : (i : Int) < 2 := by omega
      go_wp2_with fail
      refine T2.out.mono ?_
      rintro e w3 ⟨g3, B1, j1, d1, B2, j2, d2, rfl, hq1, hq2, hg3, hfr, hf1, hf2, hb3⟩
      obtain ⟨rfl, rfl⟩ := rq_same HV.out.2.2.1 hq2
      have H3 := Lib.hid (And.intro hq1 (And.intro hq2 (And.intro hg3 (And.intro hfr (And.intro hf1 (And.intro hf2 hb3))))))
      clear hq1 hq2 hg3 hfr hf1 hf2 hb3 T2
      have hkw : Kp V w3 := Kp.trans HK.out H3.out.2.2.2.2.2.2
      have hka := (Kp.refl w3).alloc (.cells #[.bool (decide (sm.num < 0)), .slice B1 j1 d1, .bool false, .slice B2 j2 d2] 31)
      have hbn := Blk.new w3 31 #[.bool (decide (sm.num < 0)), .slice B1 j1 d1, .bool false, .slice B2 j2 d2]
      have hbv := Kp.blk (Kp.trans hkw hka) HV.out.2.2.2
      obtain ⟨a0, a1, a2, a3, -, -, -, -⟩ := hbv.four
      obtain ⟨b0, b1, b2, b3, -, -, -, -⟩ := hbn.four
      have HU := Lib.hid (And.intro (Kp.trans hkw hka) (And.intro hka hbn))
      have TIS := Lib.hid (fun W (hW : Kp w3 W) => ris_yes sm B1 A1 B2 A2 j1 d1 j2 d2 c1 c2 W (H3.out.2.1.below hW) (HV.out.2.2.1.below (Kp.trans hkw hW)) (by have := (RQ.lens H3.out.2.1 HSL.out).1; have := HPM.out; omega) (by have := (RQ.lens H3.out.2.1 HSL.out).2; have := HPM.out; omega))
      have TRW := Lib.hid (fun W (hW : Kp w3 W) => rrows_yes (some ⟨g3, 0, none⟩) Ah n n ch ms W (H3.out.1.at.below hW) (HV.out.2.1.below (Kp.trans hkw hW)) (by have := HPM.out; omega) HSZ.out)
      clear hkw hka hbn hbv
      go_wp2_with fail
      refine (TIS.out _ HU.out.2.1).mono ?_
      rintro e w4 ⟨rfl, hb4⟩
      have hk4 := Kp.trans HU.out.2.1 hb4
      have HB4 := Lib.hid hb4
      clear hb4 TIS a0 a1 a2 a3 b0 b1 b2 b3
      go_wp2_with fail
      refine (TRW.out _ hk4).mono ?_
      rintro e w5 ⟨rfl, hb5⟩
      have hk5 := Kp.trans hk4 hb5
      have hbx5 := (Kp.blk (Kp.trans HB4.out hb5) HU.out.2.2)
      have hsz5 : w3.heap.size < w5.heap.size := hbx5.lt
      have TS := Lib.hid (spoil_any wr.heap.size w3.heap.size g3 n n w5 (H3.out.2.2.2.1.below hk5) (H3.out.2.2.2.1.top.below hk5 H3.out.2.2.2.1.lt) H3.out.2.2.1 H3.out.2.2.2.1.lt (by have := HPM.out; omega))
      have HW5 := Lib.hid (And.intro hk5 hbx5)
      clear hk4 hb5 hk5 hbx5 TRW HB4
      go_wp2_with fail
      refine TS.out.mono ?_
      rintro e w6 ⟨rfl, hs6⟩
      have hbx6 : Blk w6 w3.heap.size 31 #[.bool (decide (sm.num < 0)), .slice B1 j1 d1, .bool false, .slice B2 j2 d2] := (hs6.2.2.1 _ (Nat.le_refl _)).trans HW5.out.2
      have h56 : w3.heap.size ≤ w6.heap.size := by rw [hs6.2.1]; omega
      obtain ⟨l1, l2⟩ := RQ.lens H3.out.2.1 HSL.out
      have hw1 : Wr wr.heap.size w6.heap.size w6 B1 j1 := hs6.2.2.2 _ _ _ _ ((Wr.new H3.out.2.2.2.2.1 H3.out.2.1.2.2.1 (Nat.le_refl _) h56 (by have := HPM.out; omega)).below HW5.out.1)
      have hw2 : Wr wr.heap.size w6.heap.size w6 B2 j2 := hs6.2.2.2 _ _ _ _ ((Wr.new H3.out.2.2.2.2.2.1 H3.out.2.1.2.2.2 (Nat.le_refl _) h56 (by have := HPM.out; omega)).below HW5.out.1)
      obtain ⟨b0, b1, b2, b3, -, -, -, -⟩ := hbx6.four
      have hfr := fr_one (a := decide (sm.num < 0)) (a' := false) H3.out.2.1.1 H3.out.2.1.2.1 hw1 hw2
      have hr3 : wr.heap.size ≤ w3.heap.size := Below.size H3.out.2.2.2.2.2.2
      have TS2 := Lib.hid (spoil_any wr.heap.size (w6.heap.size + 1) w6.heap.size 1 1 _ hfr (by have := hfr.top; rwa [World.size_alloc] at this) (by omega) (by omega) (by omega))
      have HB6 := Lib.hid (show Below wr.heap.size wr (w6.alloc (.cells #[.bool (decide (sm.num < 0)), .slice B1 j1 d1, .bool false, .slice B2 j2 d2] 31)) from ((H3.out.2.2.2.2.2.2.trans (Below.mono HW5.out.1 hr3)).trans hs6.1).trans (Below.mono ((Kp.refl w6).alloc _) (by omega)))
      clear hs6 hbx6 h56 l1 l2 hw1 hw2 hfr hr3 TS HW5 hsz5
      go_wp2_with fail
      refine TS2.out.mono ?_
      rintro e w7 ⟨rfl, hs7⟩
      have HF := Lib.hid (show Kp V w7 from Kp.trans HK.out (HB6.out.trans hs7.1))
      clear hs7 TS2 HB6 b0 b1 b2 b3 HU H3
      go_wp2
      go_roundw
      case rel => exact ⟨i + 1, by omega, by first | rfl | go_num, HF⟩
      case measure => simp [intOf]; omega
    · obtain rfl : i = 2 := by omega
      have HB1 := Lib.hid (HV.out.1.trans (Below.mono HK.out (Below.size HV.out.1)))
      go_wp2_with fail
      refine (awake30_any _).mono ?_
      rintro e w2 ⟨rfl, hb2⟩
      have HF := Lib.hid (HB1.out.trans (hb2.mono HB1.out.size))
      clear hb2
      go_wp2
      go_ret
      exact ⟨rfl, HF.out⟩

end Go.Proofs.YtodkhjihkkmplaaGreat
