/-
The reference of layer 28: Cost at a feasible row, LeastCost. No statement of the seat is proved here; no conditions beyond those of each theorem.
-/
import Derived.Test.YtdoeejcmaeefcaaGreatJN2
import Derived.Test.YtdoeejcmaeefcaaGreatHN
namespace Go.Proofs.YtdoeejcmaeefcaaGreat
set_option linter.unusedVariables false
set_option linter.unusedSimpArgs false
open Go.RowKit
open Wd
open En (Pc PU)

theorem rpart_bel (A : Option Addr) (n c : Nat) (l : List (Int × Int)) (q : Int) (w : World) (h : StAt w A n l) (hc : chk true l = 0) (hq : 0 ≤ q) (hq2 : q ≤ 1000000000) :
    Calls Tryz.prog 88 #[.slice A n c, .int .i64 q] w fun e w' => e = .returned (.int .i64 (En.cst l q)) ∧ Below w.heap.size w w' :=
  (rpart_any A n c l q w h hc hq hq2).mono fun _ w' hh => ⟨hh.1, by rw [hh.2]; exact Below.refl _ _⟩

set_option maxRecDepth 100000 in
set_option maxHeartbeats 8000000 in
theorem rcost_ok (A B C : Option Addr) (n c d e' : Nat) (us : List Un) (bs : List Bool) (xs : List Int) (w : World) (h : UsAt w A n us) (h' : BsAt w B n bs) (hx : IsAt w C n xs) (he : echk us n = 0) (hf : En.FeasR (pus us bs) xs) :
    Calls Tryz.prog 74 #[.slice A n c, .slice B n d, .slice C n e'] w fun e w' => e = .returned (.tuple #[.int .i64 (En.costR (pus us bs) xs), .int .i64 0]) ∧ Below w.heap.size w w' := by
  have T := recheck_any A B n c n d us w h
  rw [he] at T
  obtain ⟨hn5, hmn, hok⟩ := echk_ok he
  have HT := Lib.hid T
  have HUL := Lib.hid h.1
  have HBL := Lib.hid h'.1
  have HXL := Lib.hid hx.1
  have HIN := Lib.hid (feas_inC h.1 h'.1 hok hf)
  have HFE := Lib.hid (feas_get hf).2
  have HCO := Lib.hid (ecI_all (us := us) (bs := bs) (xs := xs) h.1 h'.1 hx.1)
  have HZL := Lib.hid (pus_len (us := us) (bs := bs) h.1 h'.1)
  have HU := Lib.hid h
  have HB := Lib.hid h'
  have HX := Lib.hid hx
  have HOK := Lib.hid hok
  have hn : n ≤ 5 := by omega
  have hne : ((n : Int) != (n : Int)) = false := by simp
  clear T h h' hx hok hmn hn5 he hf
  go_enter Tryz.func74, Tryz.ntmps74
  go_wp2_with fail
  refine HT.out.mono ?_
  rintro e w1 ⟨rfl, hb1⟩
  have HB1 := Lib.hid hb1
  clear hb1 HT
  go_wp2_with fail
  go_loopw [9, 10] (fun t9 t wr => ∃ k : Nat, k ≤ n ∧ t = .int .i64 k ∧ t9 = .int .i64 (ecI us xs k) ∧ Hid (Below w.heap.size w wr)) (fun _ t _ => n - (intOf t).toNat)
  case atStart => exact ⟨0, Nat.zero_le _, rfl, rfl, HB1.out⟩
  case round =>
    obtain ⟨k, hk, rfl, rfl, hR⟩ := hrel
    by_cases hlt : k < n
    · have hB := hR.out
      obtain ⟨b, o, rfl, hb, hcell⟩ := HU.out.2 (by omega)
      obtain ⟨b', o', rfl, hb', hcell'⟩ := HB.out.2 (by omega)
      obtain ⟨b2, o2, rfl, hb2, hcell2⟩ := HX.out.2 (by omega)
      have hlen : k < us.length := by have := HUL.out; omega
      have hon := (hB.cell (p := ⟨b', o' + k, none⟩) hb').trans (hcell' k hlt)
      have hxk := (hB.cell (p := ⟨b2, o2 + k, none⟩) hb2).trans (hcell2 k hlt)
      have hu0 := hcell k hlt
      have hzk := pus_get (us := us) (bs := bs) (k := k) hlen (by have := HBL.out; omega)
      have hmem : (us[k]?.getD U0) ∈ us := by rw [List.getElem?_eq_getElem hlen]; exact List.getElem_mem _
      obtain ⟨um5, um0, um1, um2, um3, um4⟩ := uchk_ok (HOK.out _ hmem)
      have hfe := HFE.out k (by have := HZL.out; omega)
      unfold PU0 at hfe
      rw [hzk] at hfe
      unfold PU.dn PU.up at hfe
      simp only at hfe
      rw [qs_eq, ← um4] at hfe
      rw [← um4] at um1 um2 um3
      have hbd1 := ecI_bd HIN.out k (by omega)
      have hbd2 := ecI_bd HIN.out (k + 1) hlen
      have hsum : ecI us xs (k + 1) = ecI us xs k + En.cst (us[k]?.getD U0).st (xs[k]?.getD 0) := rfl
      have hwr : IntKind.i64.wrap (ecI us xs k + En.cst (us[k]?.getD U0).st (xs[k]?.getD 0)) = ecI us xs k + En.cst (us[k]?.getD U0).st (xs[k]?.getD 0) := IntWalk.i64_in _ (by rw [← hsum]; omega)
      generalize ecI us xs k = s0 at *
      generalize bs[k]?.getD false = bk at *
      generalize xs[k]?.getD 0 = x at *
      generalize us[k]?.getD U0 = u at *
      obtain ⟨bus, mn, st, up, dn, start, idle, spin, on⟩ := u
      obtain ⟨A', n', c', ⟨h0', h1', h2', h3', h4', h5', h6', h7', h8'⟩, hs, hn'⟩ := hu0
      simp only at h0' h1' h2' h3' h4' h5' h6' h7' h8' hs hfe um0 um1 um2 um3 um5 hsum hwr
      replace h0' := (hB.cell (p := ⟨b, o + k * 9, none⟩) hb).trans h0'
      replace h1' := (hB.cell (p := ⟨b, o + k * 9 + 1, none⟩) hb).trans h1'
      replace h2' := (hB.cell (p := ⟨b, o + k * 9 + 2, none⟩) hb).trans h2'
      replace h3' := (hB.cell (p := ⟨b, o + k * 9 + 3, none⟩) hb).trans h3'
      replace h4' := (hB.cell (p := ⟨b, o + k * 9 + 4, none⟩) hb).trans h4'
      replace h5' := (hB.cell (p := ⟨b, o + k * 9 + 5, none⟩) hb).trans h5'
      replace h6' := (hB.cell (p := ⟨b, o + k * 9 + 6, none⟩) hb).trans h6'
      replace h7' := (hB.cell (p := ⟨b, o + k * 9 + 7, none⟩) hb).trans h7'
      replace h8' := (hB.cell (p := ⟨b, o + k * 9 + 8, none⟩) hb).trans h8'
      have hbr : b < wr.heap.size := Nat.lt_of_lt_of_le hb hB.size
      have hbr' : b' < wr.heap.size := Nat.lt_of_lt_of_le hb' hB.size
      have hbr2 : b2 < wr.heap.size := Nat.lt_of_lt_of_le hb2 hB.size
      have hx0 : 0 ≤ x := by split at hfe <;> omega
      have hx1 : x ≤ 3000000 := by split at hfe <;> omega
      have HSS := Lib.hid (hs.below hB)
      have HTM := Lib.hid (fun W hW => rumax_raw bus mn up dn start idle spin on A' n' c' st W hW)
      have HTP := Lib.hid (fun W (hW : StAt W A' n' st) => rpart_bel A' n' c' st x W hW um5 hx0 (by omega))
      have hki1 : (0 : Int) ≤ (k : Int) := by omega
      have hki2 : (k : Int) < (n : Int) := by omega
      generalize En.cst st x = cs at *
      generalize umax ⟨bus, mn, st, up, dn, start, idle, spin, on⟩ = um at *
      have HSUM := Lib.hid hsum
      clear hcell hcell' hcell2 hzk hmem um4 um5 hsum hs hR hbd1 hbd2
      have y0 := fun s : KW wr => (Below.cell s.h (p := ⟨b, o + k * 9, none⟩) hbr).trans h0'
      have y1 := fun s : KW wr => (Below.cell s.h (p := ⟨b, o + k * 9 + 1, none⟩) hbr).trans h1'
      have y2 := fun s : KW wr => (Below.cell s.h (p := ⟨b, o + k * 9 + 2, none⟩) hbr).trans h2'
      have y3 := fun s : KW wr => (Below.cell s.h (p := ⟨b, o + k * 9 + 3, none⟩) hbr).trans h3'
      have y4 := fun s : KW wr => (Below.cell s.h (p := ⟨b, o + k * 9 + 4, none⟩) hbr).trans h4'
      have y5 := fun s : KW wr => (Below.cell s.h (p := ⟨b, o + k * 9 + 5, none⟩) hbr).trans h5'
      have y6 := fun s : KW wr => (Below.cell s.h (p := ⟨b, o + k * 9 + 6, none⟩) hbr).trans h6'
      have y7 := fun s : KW wr => (Below.cell s.h (p := ⟨b, o + k * 9 + 7, none⟩) hbr).trans h7'
      have y8 := fun s : KW wr => (Below.cell s.h (p := ⟨b, o + k * 9 + 8, none⟩) hbr).trans h8'
      have yo := fun s : KW wr => (Below.cell s.h (p := ⟨b', o' + k, none⟩) hbr').trans hon
      have yx := fun s : KW wr => (Below.cell s.h (p := ⟨b2, o2 + k, none⟩) hbr2).trans hxk
      cases bk
      · simp only [Bool.false_eq_true, if_false] at hfe
        obtain rfl : x = 0 := by omega
        clear hfe um0 um1 um2 um3 hx0 hx1
        go_wp2_with fail
        try simp only [List.append_eq, List.cons_append, List.nil_append]
        refine wp_region_kw (W := wr) (by kernel_rfl) (by kernel_rfl) ?_
        repeat (go_big_quiet_step ((go_at_call 68; exact kw_call (HTM.out _ (HSS.out.below (KW.h _))))))
        refine wpQuiet_nil ?_
        intro v1 hw1
        have hv1 : Kp wr v1 := by obtain ⟨s, rfl⟩ := hw1; exact s.h
        clear hw1 y0 y1 y2 y3 y4 y5 y6 y7 y8 yo yx
        have hbr1 : b < v1.heap.size := Nat.lt_of_lt_of_le hbr (Below.size hv1)
        have hbr21 : b2 < v1.heap.size := Nat.lt_of_lt_of_le hbr2 (Below.size hv1)
        have z2 := fun s : KW v1 => (Below.cell s.h (p := ⟨b, o + k * 9 + 2, none⟩) hbr1).trans ((Below.cell hv1 (p := ⟨b, o + k * 9 + 2, none⟩) hbr).trans h2')
        have zx := fun s : KW v1 => (Below.cell s.h (p := ⟨b2, o2 + k, none⟩) hbr21).trans ((Below.cell hv1 (p := ⟨b2, o2 + k, none⟩) hbr2).trans hxk)
        have HV1 := Lib.hid (hB.trans (Below.mono hv1 hB.size))
        have HS1 := Lib.hid (HSS.out.below hv1)
        clear h0' h1' h2' h3' h4' h5' h6' h7' h8' hxk hon hv1 hB
        go_wp2_with fail
        try simp only [List.append_eq, List.cons_append, List.nil_append]
        refine wp_region_kw (W := v1) (by kernel_rfl) (by kernel_rfl) ?_
        repeat (go_big_quiet_step ((go_at_call 88; exact kw_call (HTP.out _ (HS1.out.below (KW.h _))))))
        refine wpQuiet_nil ?_
        intro v2 hw2
        have hv2 : Kp v1 v2 := by obtain ⟨s, rfl⟩ := hw2; exact s.h
        have HV2 := Lib.hid (HV1.out.trans (Below.mono hv2 HV1.out.size))
        clear hw2 hv2 z2 zx HTP HTM HSS HS1 HV1
        go_wp2
        go_roundw
        case rel => exact ⟨k + 1, by omega, by go_num, by rw [HSUM.out], HV2.out⟩
        case measure => simp [intOf]; omega
      · simp only [if_true] at hfe
        have d1 : decide (x < mn) = false := by simp; omega
        have d2 : decide (um < x) = false := by simp; omega
        clear hfe um0 um1 um2 um3 hx0 hx1
        go_wp2_with fail
        try simp only [List.append_eq, List.cons_append, List.nil_append]
        refine wp_region_kw (W := wr) (by kernel_rfl) (by kernel_rfl) ?_
        repeat (go_big_quiet_step ((go_at_call 68; exact kw_call (HTM.out _ (HSS.out.below (KW.h _))))))
        refine wpQuiet_nil ?_
        intro v1 hw1
        have hv1 : Kp wr v1 := by obtain ⟨s, rfl⟩ := hw1; exact s.h
        clear hw1 y0 y1 y2 y3 y4 y5 y6 y7 y8 yo yx
        have hbr1 : b < v1.heap.size := Nat.lt_of_lt_of_le hbr (Below.size hv1)
        have hbr21 : b2 < v1.heap.size := Nat.lt_of_lt_of_le hbr2 (Below.size hv1)
        have z2 := fun s : KW v1 => (Below.cell s.h (p := ⟨b, o + k * 9 + 2, none⟩) hbr1).trans ((Below.cell hv1 (p := ⟨b, o + k * 9 + 2, none⟩) hbr).trans h2')
        have zx := fun s : KW v1 => (Below.cell s.h (p := ⟨b2, o2 + k, none⟩) hbr21).trans ((Below.cell hv1 (p := ⟨b2, o2 + k, none⟩) hbr2).trans hxk)
        have HV1 := Lib.hid (hB.trans (Below.mono hv1 hB.size))
        have HS1 := Lib.hid (HSS.out.below hv1)
        clear h0' h1' h2' h3' h4' h5' h6' h7' h8' hxk hon hv1 hB
        go_wp2_with fail
        try simp only [List.append_eq, List.cons_append, List.nil_append]
        refine wp_region_kw (W := v1) (by kernel_rfl) (by kernel_rfl) ?_
        repeat (go_big_quiet_step ((go_at_call 88; exact kw_call (HTP.out _ (HS1.out.below (KW.h _))))))
        refine wpQuiet_nil ?_
        intro v2 hw2
        have hv2 : Kp v1 v2 := by obtain ⟨s, rfl⟩ := hw2; exact s.h
        have HV2 := Lib.hid (HV1.out.trans (Below.mono hv2 HV1.out.size))
        clear hw2 hv2 z2 zx HTP HTM HSS HS1 HV1
        go_wp2
        go_roundw
        case rel => exact ⟨k + 1, by omega, by go_num, by rw [HSUM.out], HV2.out⟩
        case measure => simp [intOf]; omega
    · obtain rfl : k = n := by omega
      go_wp2
      go_ret2
      rw [HCO.out]
      exact ⟨rfl, hR.out⟩

theorem ralloc_row (A B : Option Addr) (n c m d : Nat) (us : List Un) (bs : List Bool) (f : Int) (w : World) (h : UsAt w A n us) (h' : BsAt w B m bs) (he : aerr us bs m f = 0) :
    Calls Tryz.prog 73 #[.slice A n c, .slice B m d, .int .i64 f] w fun e w' => ∃ g, e = .returned (.tuple #[.slice (some ⟨g, 0, none⟩) n n, .int .i64 0]) ∧ IRow w' g (optR us bs f) ∧ (optR us bs f).length = n ∧ En.Opt (pus us bs) f (optR us bs f) ∧ w.heap.size ≤ g ∧ Below w.heap.size w w' := by
  obtain ⟨h1, h2, h3, h4⟩ := aerr_ok he
  obtain ⟨_, hmn, hok⟩ := echk_ok h1
  have hnm : m = n := by rw [hmn]; exact h.1
  subst hnm
  refine (ralloc_ok A B m c d us bs f w h h' h1 h2 h3 h4).mono ?_
  rintro e w' ⟨g, xs, rfl, hR, hl, hO, hg, hb⟩
  have e1 := optR_eq hok hO
  exact ⟨g, rfl, by rw [e1]; exact hR, by rw [e1]; exact hl, by rw [e1]; exact hO, hg, hb⟩

set_option maxHeartbeats 2000000 in
theorem rlc_any (A B : Option Addr) (n c m d : Nat) (us : List Un) (bs : List Bool) (f : Int) (w : World) (h : UsAt w A n us) (h' : BsAt w B m bs) (hm : n ≤ 1000000000000) (hm' : m ≤ 1000000000000) :
    Calls Tryz.prog 57 #[.slice A n c, .slice B m d, .int .i64 f] w fun e w' => e = .returned (.tuple #[.int .i64 (lcV us bs m f), .int .i64 (aerr us bs m f)]) ∧ Below w.heap.size w w' := by
  by_cases he : aerr us bs m f = 0
  · have T := ralloc_row A B n c m d us bs f w h h' he
    obtain ⟨h1, _⟩ := aerr_ok he
    obtain ⟨_, hmn, hok⟩ := echk_ok h1
    have hnm : m = n := by rw [hmn]; exact h.1
    subst hnm
    have HV : Hid (lcV us bs m f = En.costR (pus us bs) (optR us bs f)) := Lib.hid (by unfold lcV; rw [if_pos he])
    have HC := Lib.hid (fun g W (hW : Below w.heap.size w W) (hR : IRow W g (optR us bs f)) (hl : (optR us bs f).length = m) (hO : En.Opt (pus us bs) f (optR us bs f)) =>
      rcost_ok A B (some ⟨g, 0, none⟩) m c d m us bs (optR us bs f) W (h.below hW) (h'.below hW) (hR.at hl) h1 (hO.feas (pus_allok hok)))
    rw [he, HV.out]
    have HT := Lib.hid T
    clear T h h' h1 he hmn hok HV
    go_enter Tryz.func57, Tryz.ntmps57
    go_wp2_with fail
    refine HT.out.mono ?_
    rintro e w1 ⟨g, rfl, hR, hl, hO, hg, hb⟩
    have HX := Lib.hid (HC.out g w1 hb hR hl hO)
    have HB := Lib.hid hb
    clear hR hl hO hg hb HT HC
    go_wp2_with fail
    refine HX.out.mono ?_
    rintro e w2 ⟨rfl, hb2⟩
    have HB2 := Lib.hid (HB.out.trans (hb2.mono HB.out.size))
    clear hb2 HX HB
    go_wp2
    go_ret2
    exact ⟨rfl, HB2.out⟩
  · have T := ralloc_no A B n c m d us bs f w h h' hm hm' he
    have hz : lcV us bs m f = 0 := by unfold lcV; rw [if_neg he]
    rw [hz]
    clear hz h h'
    generalize aerr us bs m f = x at *
    have hx : (x != 0) = true := by simpa using he
    have HT := Lib.hid T
    clear T he
    go_enter Tryz.func57, Tryz.ntmps57
    go_wp2_with fail
    refine HT.out.mono ?_
    rintro e w1 ⟨rfl, hb⟩
    have HB := Lib.hid hb
    clear hb HT
    go_wp2
    go_ret2
    exact ⟨rfl, HB.out⟩

end Go.Proofs.YtdoeejcmaeefcaaGreat
