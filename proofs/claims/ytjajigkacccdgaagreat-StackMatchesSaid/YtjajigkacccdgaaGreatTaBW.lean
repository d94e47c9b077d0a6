/-
The statements of layer 24: awake. Rows of curves of the call's own; what Long tells. No statement of the seat is proved here; no conditions beyond those of each theorem.
-/
import Derived.Test.YtjajigkacccdgaaGreatTaBV
import Derived.Test.YtjajigkacccdgaaGreatTaBO
import Derived.Test.YtjajigkacccdgaaGreatTaBF
import Derived.Test.YtjajigkacccdgaaGreatTaBQ
namespace Go.Proofs.YtjajigkacccdgaaGreat
set_option linter.unusedVariables false
set_option linter.unusedSimpArgs false
open Go.RowKit
open Wd

set_option maxRecDepth 100000 in
set_option maxHeartbeats 4000000 in
theorem awake24_any (w : World) : Calls Tryz.prog 13 #[] w fun e w' => e = .returned (.bool true) ∧ Below w.heap.size w w' := by
 have HKw := Lib.hid (Below.refl w.heap.size w)
 go_enter Tryz.func13, Tryz.ntmps13
 have hK : Below w.heap.size w (w.alloc (.cells #[.int .i64 5, .int .i64 1, .int .i64 4, .int .i64 3] 2)) := HKw.out.alloc HKw.out.size _
 have HC := Lib.hid (curve_any (some ⟨w.heap.size, 0, none⟩) 2 4 [5, 1, 4, 3] _ (IsAt.lit (Blk.new w 2 #[.int .i64 5, .int .i64 1, .int .i64 4, .int .i64 3]) rfl rfl) (by omega) (fits_lit (by simp)))
 rw [prs_a] at HC
 have HKX := Lib.hid hK
 clear hK
 go_wp2_with fail
 refine HC.out.mono ?_
 rintro e w1 ⟨A1, c1, rfl, hS, hb⟩
 have HKw1 := Lib.hid (HKX.out.trans (hb.mono HKX.out.size))
 have HL := Lib.hid (show Below w.heap.size w w1 from ((Below.refl _ _).alloc (Nat.le_refl _) _).trans (hb.mono (by simp)))
 have HS1 := Lib.hid hS
 clear hS hb HC HKX
 clear HL
 have hK : Below w.heap.size w (w1.alloc (.cells #[.int .i64 3, .int .i64 2, .int .i64 3, .int .i64 3] 2)) := HKw1.out.alloc HKw1.out.size _
 have HC := Lib.hid (curve_any (some ⟨w1.heap.size, 0, none⟩) 2 4 [3, 2, 3, 3] _ (IsAt.lit (Blk.new w1 2 #[.int .i64 3, .int .i64 2, .int .i64 3, .int .i64 3]) rfl rfl) (by omega) (fits_lit (by simp)))
 rw [prs_b] at HC
 have HKX := Lib.hid hK
 clear hK
 go_wp2_with fail
 refine HC.out.mono ?_
 rintro e w2 ⟨A2, c2, rfl, hS, hb⟩
 have HKw2 := Lib.hid (HKX.out.trans (hb.mono HKX.out.size))
 have HL := Lib.hid (show Below w1.heap.size w1 w2 from ((Below.refl _ _).alloc (Nat.le_refl _) _).trans (hb.mono (by simp)))
 have HS2 := Lib.hid hS
 clear hS hb HC HKX
 have HS1 := Lib.hid (HS1.out.below HL.out)
 clear HL
 have hK : Below w.heap.size w (w2.alloc (.cells #[.slice A1 2 c1, .slice A2 2 c2] 29)) := HKw2.out.alloc HKw2.out.size _
 have kx := (Kp.refl w2).alloc (.cells #[.slice A1 2 c1, .slice A2 2 c2] 29)
 have HC := Lib.hid (merge_offers_lv (some ⟨w2.heap.size, 0, none⟩) 2 2 _ exO _ (CsAt.two (Blk.new w2 29 #[.slice A1 2 c1, .slice A2 2 c2]) (HS1.out.below kx) (HS2.out.below kx)) (by simp) exO_ck exO_is)
 rw [show exO.length = 3 from rfl] at HC
 have HKX := Lib.hid hK
 clear hK kx HS1 HS2
 go_wp2_with fail
 refine HC.out.mono ?_
 rintro e w3 ⟨mg, cap, rfl, hL, hV, hb⟩
 have HKw3 := Lib.hid (HKX.out.trans (hb.mono HKX.out.size))
 have HLO := Lib.hid hL
 have HVO := Lib.hid hV
 clear hb hL hV HC HKX
 have hK : Below w.heap.size w (w3.alloc (.cells #[.int .i64 4, .int .i64 9, .int .i64 4, .int .i64 2] 2)) := HKw3.out.alloc HKw3.out.size _
 have HC := Lib.hid (curve_any (some ⟨w3.heap.size, 0, none⟩) 2 4 [4, 9, 4, 2] _ (IsAt.lit (Blk.new w3 2 #[.int .i64 4, .int .i64 9, .int .i64 4, .int .i64 2]) rfl rfl) (by omega) (fits_lit (by simp)))
 rw [prs_c] at HC
 have HKX := Lib.hid hK
 clear hK
 go_wp2_with fail
 refine HC.out.mono ?_
 rintro e w4 ⟨A3, c3, rfl, hS, hb⟩
 have HKw4 := Lib.hid (HKX.out.trans (hb.mono HKX.out.size))
 have HL := Lib.hid (show Below w3.heap.size w3 w4 from ((Below.refl _ _).alloc (Nat.le_refl _) _).trans (hb.mono (by simp)))
 have HS3 := Lib.hid hS
 clear hS hb HC HKX
 have HLO := Lib.hid (HLO.out.below HL.out)
 clear HL
 have hK : Below w.heap.size w (w4.alloc (.cells #[.int .i64 3, .int .i64 9] 2)) := HKw4.out.alloc HKw4.out.size _
 have HC := Lib.hid (curve_any (some ⟨w4.heap.size, 0, none⟩) 1 2 [3, 9] _ (IsAt.lit (Blk.new w4 2 #[.int .i64 3, .int .i64 9]) rfl rfl) (by omega) (fits_lit (by simp)))
 rw [prs_d] at HC
 have HKX := Lib.hid hK
 clear hK
 go_wp2_with fail
 refine HC.out.mono ?_
 rintro e w5 ⟨A4, c4, rfl, hS, hb⟩
 have HKw5 := Lib.hid (HKX.out.trans (hb.mono HKX.out.size))
 have HL := Lib.hid (show Below w4.heap.size w4 w5 from ((Below.refl _ _).alloc (Nat.le_refl _) _).trans (hb.mono (by simp)))
 have HS4 := Lib.hid hS
 clear hS hb HC HKX
 have HLO := Lib.hid (HLO.out.below HL.out)
 have HS3 := Lib.hid (HS3.out.below HL.out)
 clear HL
 have hK : Below w.heap.size w (w5.alloc (.cells #[.slice A3 2 c3, .slice A4 1 c4] 29)) := HKw5.out.alloc HKw5.out.size _
 have kx := (Kp.refl w5).alloc (.cells #[.slice A3 2 c3, .slice A4 1 c4] 29)
 have HC := Lib.hid (merge_bids_lv (some ⟨w5.heap.size, 0, none⟩) 2 2 _ exB _ (CsAt.two (Blk.new w5 29 #[.slice A3 2 c3, .slice A4 1 c4]) (HS3.out.below kx) (HS4.out.below kx)) (by simp) exB_ck exB_is)
 rw [show exB.length = 2 from rfl] at HC
 have HKX := Lib.hid hK
 have HLO := Lib.hid (HLO.out.below kx)
 clear hK kx HS3 HS4
 go_wp2_with fail
 refine HC.out.mono ?_
 rintro e w6 ⟨mh, cbp, rfl, hL, hV, hb⟩
 have HKw6 := Lib.hid (HKX.out.trans (hb.mono HKX.out.size))
 have HLO := Lib.hid (HLO.out.below hb)
 have HLB := Lib.hid hL
 have HVB := Lib.hid hV
 clear hb hL hV HC HKX
 go_wp2_with fail
 refine (qfromInt64_any 16 w6 (by omega) (by omega)).mono ?_
 rintro e w7 ⟨A5, k5, c5, A6, k6, c6, rfl, hk5, hk6, hW5, hW6, -, -, hb⟩
 have HKw7 := Lib.hid (HKw6.out.trans (hb.mono HKw6.out.size))
 have HLO := Lib.hid (HLO.out.below hb)
 have HLB := Lib.hid (HLB.out.below hb)
 have HC := Lib.hid (share_over true (some ⟨mg, 0, none⟩) 3 2 cap exO 16 A5 A6 k5 c5 k6 c6 w7 HLO.out HVO.out ⟨hk5, hk6, hW5, hW6⟩ (by omega) (by rw [exO_tot]; omega) (by omega))
 clear hb hk5 hk6 hW5 hW6
 go_wp2_with fail
 refine HC.out.mono ?_
 rintro e w8 ⟨rfl, hb⟩
 have HKw8 := Lib.hid (HKw7.out.trans (hb.mono HKw7.out.size))
 have HLO := Lib.hid (HLO.out.below hb)
 have HLB := Lib.hid (HLB.out.below hb)
 clear hb HC
 have HC := Lib.hid (told_any (some ⟨mg, 0, none⟩) 3 2 cap exO w8 HLO.out (by omega) (by omega))
 go_wp2_with fail
 refine HC.out.mono ?_
 rintro e w9 ⟨T1, t1, rfl, hM, hb⟩
 have HL := Lib.hid (show Below w8.heap.size w8 w9 from hb)
 have HKw9 := Lib.hid (HKw8.out.trans (HL.out.mono HKw8.out.size))
 have HT := Lib.hid hM
 clear hM
 have HLO := Lib.hid (HLO.out.below HL.out)
 have HLB := Lib.hid (HLB.out.below HL.out)
 clear hb HC HL
 have hI := IsAt.lit (xs := [5, 0]) (n := 2) (Blk.new w9 2 #[.int .i64 5, .int .i64 0]) rfl rfl
 have HC := Lib.hid (level_any 1 5 (some ⟨w9.heap.size, 0, none⟩) 2 2 (w9.alloc (.cells #[.int .i64 5, .int .i64 0] 2)))
 have HI := Lib.hid hI
 clear hI
 go_wp2_with fail
 refine HC.out.mono ?_
 rintro e w10 ⟨rfl, hb⟩
 have HL := Lib.hid (show Below w9.heap.size w9 w10 from ((Below.refl _ _).alloc (Nat.le_refl _) _).trans (hb.mono (by simp)))
 have HKw10 := Lib.hid (HKw9.out.trans (HL.out.mono HKw9.out.size))
 have HX1 := Lib.hid (HI.out.below hb)
 have HLO := Lib.hid (HLO.out.below HL.out)
 have HLB := Lib.hid (HLB.out.below HL.out)
 have HT := Lib.hid (HT.out.below HL.out)
 clear hb HC HL
 clear HI
 have hI := IsAt.lit (xs := [0, 3]) (n := 2) (Blk.new w10 2 #[.int .i64 0, .int .i64 3]) rfl rfl
 have HC := Lib.hid (level_any 2 3 (some ⟨w10.heap.size, 0, none⟩) 2 2 (w10.alloc (.cells #[.int .i64 0, .int .i64 3] 2)))
 have HI := Lib.hid hI
 clear hI
 go_wp2_with fail
 refine HC.out.mono ?_
 rintro e w11 ⟨rfl, hb⟩
 have HL := Lib.hid (show Below w10.heap.size w10 w11 from ((Below.refl _ _).alloc (Nat.le_refl _) _).trans (hb.mono (by simp)))
 have HKw11 := Lib.hid (HKw10.out.trans (HL.out.mono HKw10.out.size))
 have HX2 := Lib.hid (HI.out.below hb)
 have HLO := Lib.hid (HLO.out.below HL.out)
 have HLB := Lib.hid (HLB.out.below HL.out)
 have HT := Lib.hid (HT.out.below HL.out)
 have HX1 := Lib.hid (HX1.out.below HL.out)
 clear hb HC HL
 clear HI
 have hI := IsAt.lit (xs := [4, 3]) (n := 2) (Blk.new w11 2 #[.int .i64 4, .int .i64 3]) rfl rfl
 have HC := Lib.hid (level_any 3 7 (some ⟨w11.heap.size, 0, none⟩) 2 2 (w11.alloc (.cells #[.int .i64 4, .int .i64 3] 2)))
 have HI := Lib.hid hI
 clear hI
 go_wp2_with fail
 refine HC.out.mono ?_
 rintro e w12 ⟨rfl, hb⟩
 have HL := Lib.hid (show Below w11.heap.size w11 w12 from ((Below.refl _ _).alloc (Nat.le_refl _) _).trans (hb.mono (by simp)))
 have HKw12 := Lib.hid (HKw11.out.trans (HL.out.mono HKw11.out.size))
 have HX3 := Lib.hid (HI.out.below hb)
 have HLO := Lib.hid (HLO.out.below HL.out)
 have HLB := Lib.hid (HLB.out.below HL.out)
 have HT := Lib.hid (HT.out.below HL.out)
 have HX1 := Lib.hid (HX1.out.below HL.out)
 have HX2 := Lib.hid (HX2.out.below HL.out)
 clear hb HC HL
 clear HI
 have kx := (Kp.refl w12).alloc (.cells #[.int .i64 1, .int .i64 5, .slice (some ⟨w9.heap.size, 0, none⟩) 2 2, .int .i64 2, .int .i64 3, .slice (some ⟨w10.heap.size, 0, none⟩) 2 2, .int .i64 3, .int .i64 7, .slice (some ⟨w11.heap.size, 0, none⟩) 2 2] 64)
 have hJ := LvAt.three (Blk.new w12 64 #[.int .i64 1, .int .i64 5, .slice (some ⟨w9.heap.size, 0, none⟩) 2 2, .int .i64 2, .int .i64 3, .slice (some ⟨w10.heap.size, 0, none⟩) 2 2, .int .i64 3, .int .i64 7, .slice (some ⟨w11.heap.size, 0, none⟩) 2 2]) (HX1.out.below kx) (HX2.out.below kx) (HX3.out.below kx)
 have HC := Lib.hid (told_any (some ⟨w12.heap.size, 0, none⟩) 3 2 3 exO (w12.alloc (.cells #[.int .i64 1, .int .i64 5, .slice (some ⟨w9.heap.size, 0, none⟩) 2 2, .int .i64 2, .int .i64 3, .slice (some ⟨w10.heap.size, 0, none⟩) 2 2, .int .i64 3, .int .i64 7, .slice (some ⟨w11.heap.size, 0, none⟩) 2 2] 64)) hJ (by omega) (by omega))
 clear hJ kx
 go_wp2_with fail
 refine HC.out.mono ?_
 rintro e w13 ⟨B9, d9, rfl, hM, hb⟩
 have HL := Lib.hid (show Below w12.heap.size w12 w13 from ((Below.refl _ _).alloc (Nat.le_refl _) _).trans (hb.mono (by simp)))
 have HKw13 := Lib.hid (HKw12.out.trans (HL.out.mono HKw12.out.size))
 have HM := Lib.hid hM
 clear hM
 have HLO := Lib.hid (HLO.out.below HL.out)
 have HLB := Lib.hid (HLB.out.below HL.out)
 have HT := Lib.hid (HT.out.below HL.out)
 have HX1 := Lib.hid (HX1.out.below HL.out)
 have HX2 := Lib.hid (HX2.out.below HL.out)
 have HX3 := Lib.hid (HX3.out.below HL.out)
 clear hb HC HL
 have HC := Lib.hid (same24_yes T1 B9 3 2 t1 d9 exO w13 HT.out HM.out (by omega) (by omega))
 clear HM
 go_wp2_with fail
 refine HC.out.mono ?_
 rintro e w14 ⟨rfl, hb⟩
 have HL := Lib.hid (show Below w13.heap.size w13 w14 from hb)
 have HKw14 := Lib.hid (HKw13.out.trans (HL.out.mono HKw13.out.size))
 have HLO := Lib.hid (HLO.out.below HL.out)
 have HLB := Lib.hid (HLB.out.below HL.out)
 have HT := Lib.hid (HT.out.below HL.out)
 have HX1 := Lib.hid (HX1.out.below HL.out)
 have HX2 := Lib.hid (HX2.out.below HL.out)
 have HX3 := Lib.hid (HX3.out.below HL.out)
 clear hb HC HL
 clear HT HX1 HX2 HX3
 have hI := IsAt.lit (xs := [5, 5]) (n := 2) (Blk.new w14 2 #[.int .i64 5, .int .i64 5]) rfl rfl
 have HC := Lib.hid (shares_yes true (some ⟨mg, 0, none⟩) (some ⟨w14.heap.size, 0, none⟩) 3 2 cap 2 exO 10 17 (w14.alloc (.cells #[.int .i64 5, .int .i64 5] 2)) (HLO.out.below ((Kp.refl w14).alloc _)) HVO.out (by omega) (by rw [exO_tot]; omega) (by omega) (by rw [exO_s10]; exact hI) exO_c10.symm (by unfold Fits; omega) (by rw [exO_s10]; simp [Fits]))
 clear hI
 go_wp2_with fail
 refine HC.out.mono ?_
 rintro e w15 ⟨rfl, hb⟩
 have HL := Lib.hid (show Below w14.heap.size w14 w15 from ((Below.refl _ _).alloc (Nat.le_refl _) _).trans (hb.mono (by simp)))
 have HKw15 := Lib.hid (HKw14.out.trans (HL.out.mono HKw14.out.size))
 have HLO := Lib.hid (HLO.out.below HL.out)
 have HLB := Lib.hid (HLB.out.below HL.out)
 clear hb HC HL
 have hI := IsAt.lit (xs := [6, 6]) (n := 2) (Blk.new w15 2 #[.int .i64 6, .int .i64 6]) rfl rfl
 have HC := Lib.hid (shares_yes true (some ⟨mg, 0, none⟩) (some ⟨w15.heap.size, 0, none⟩) 3 2 cap 2 exO 12 23 (w15.alloc (.cells #[.int .i64 6, .int .i64 6] 2)) (HLO.out.below ((Kp.refl w15).alloc _)) HVO.out (by omega) (by rw [exO_tot]; omega) (by omega) (by rw [exO_s12]; exact hI) exO_c12.symm (by unfold Fits; omega) (by rw [exO_s12]; simp [Fits]))
 clear hI
 go_wp2_with fail
 refine HC.out.mono ?_
 rintro e w16 ⟨rfl, hb⟩
 have HL := Lib.hid (show Below w15.heap.size w15 w16 from ((Below.refl _ _).alloc (Nat.le_refl _) _).trans (hb.mono (by simp)))
 have HKw16 := Lib.hid (HKw15.out.trans (HL.out.mono HKw15.out.size))
 have HLO := Lib.hid (HLO.out.below HL.out)
 have HLB := Lib.hid (HLB.out.below HL.out)
 clear hb HC HL
 have HC := Lib.hid (told_any (some ⟨mh, 0, none⟩) 2 2 cbp exB w16 HLB.out (by omega) (by omega))
 go_wp2_with fail
 refine HC.out.mono ?_
 rintro e w17 ⟨T2, t2, rfl, hM, hb⟩
 have HL := Lib.hid (show Below w16.heap.size w16 w17 from hb)
 have HKw17 := Lib.hid (HKw16.out.trans (HL.out.mono HKw16.out.size))
 have HT := Lib.hid hM
 clear hM
 have HLO := Lib.hid (HLO.out.below HL.out)
 have HLB := Lib.hid (HLB.out.below HL.out)
 clear hb HC HL
 have hI := IsAt.lit (xs := [4, 3]) (n := 2) (Blk.new w17 2 #[.int .i64 4, .int .i64 3]) rfl rfl
 have HC := Lib.hid (level_any 9 7 (some ⟨w17.heap.size, 0, none⟩) 2 2 (w17.alloc (.cells #[.int .i64 4, .int .i64 3] 2)))
 have HI := Lib.hid hI
 clear hI
 go_wp2_with fail
 refine HC.out.mono ?_
 rintro e w18 ⟨rfl, hb⟩
 have HL := Lib.hid (show Below w17.heap.size w17 w18 from ((Below.refl _ _).alloc (Nat.le_refl _) _).trans (hb.mono (by simp)))
 have HKw18 := Lib.hid (HKw17.out.trans (HL.out.mono HKw17.out.size))
 have HX1 := Lib.hid (HI.out.below hb)
 have HLO := Lib.hid (HLO.out.below HL.out)
 have HLB := Lib.hid (HLB.out.below HL.out)
 have HT := Lib.hid (HT.out.below HL.out)
 clear hb HC HL
 clear HI
 have hI := IsAt.lit (xs := [4, 0]) (n := 2) (Blk.new w18 2 #[.int .i64 4, .int .i64 0]) rfl rfl
 have HC := Lib.hid (level_any 2 4 (some ⟨w18.heap.size, 0, none⟩) 2 2 (w18.alloc (.cells #[.int .i64 4, .int .i64 0] 2)))
 have HI := Lib.hid hI
 clear hI
 go_wp2_with fail
 refine HC.out.mono ?_
 rintro e w19 ⟨rfl, hb⟩
 have HL := Lib.hid (show Below w18.heap.size w18 w19 from ((Below.refl _ _).alloc (Nat.le_refl _) _).trans (hb.mono (by simp)))
 have HKw19 := Lib.hid (HKw18.out.trans (HL.out.mono HKw18.out.size))
 have HX2 := Lib.hid (HI.out.below hb)
 have HLO := Lib.hid (HLO.out.below HL.out)
 have HLB := Lib.hid (HLB.out.below HL.out)
 have HT := Lib.hid (HT.out.below HL.out)
 have HX1 := Lib.hid (HX1.out.below HL.out)
 clear hb HC HL
 clear HI
 have kx := (Kp.refl w19).alloc (.cells #[.int .i64 9, .int .i64 7, .slice (some ⟨w17.heap.size, 0, none⟩) 2 2, .int .i64 2, .int .i64 4, .slice (some ⟨w18.heap.size, 0, none⟩) 2 2] 64)
 have hJ := LvAt.two (Blk.new w19 64 #[.int .i64 9, .int .i64 7, .slice (some ⟨w17.heap.size, 0, none⟩) 2 2, .int .i64 2, .int .i64 4, .slice (some ⟨w18.heap.size, 0, none⟩) 2 2]) (HX1.out.below kx) (HX2.out.below kx)
 have HC := Lib.hid (told_any (some ⟨w19.heap.size, 0, none⟩) 2 2 2 exB (w19.alloc (.cells #[.int .i64 9, .int .i64 7, .slice (some ⟨w17.heap.size, 0, none⟩) 2 2, .int .i64 2, .int .i64 4, .slice (some ⟨w18.heap.size, 0, none⟩) 2 2] 64)) hJ (by omega) (by omega))
 clear hJ kx
 go_wp2_with fail
 refine HC.out.mono ?_
 rintro e w20 ⟨B9, d9, rfl, hM, hb⟩
 have HL := Lib.hid (show Below w19.heap.size w19 w20 from ((Below.refl _ _).alloc (Nat.le_refl _) _).trans (hb.mono (by simp)))
 have HKw20 := Lib.hid (HKw19.out.trans (HL.out.mono HKw19.out.size))
 have HM := Lib.hid hM
 clear hM
 have HLO := Lib.hid (HLO.out.below HL.out)
 have HLB := Lib.hid (HLB.out.below HL.out)
 have HT := Lib.hid (HT.out.below HL.out)
 have HX1 := Lib.hid (HX1.out.below HL.out)
 have HX2 := Lib.hid (HX2.out.below HL.out)
 clear hb HC HL
 have HC := Lib.hid (same24_yes T2 B9 2 2 t2 d9 exB w20 HT.out HM.out (by omega) (by omega))
 clear HM
 go_wp2_with fail
 refine HC.out.mono ?_
 rintro e w21 ⟨rfl, hb⟩
 have HL := Lib.hid (show Below w20.heap.size w20 w21 from hb)
 have HKw21 := Lib.hid (HKw20.out.trans (HL.out.mono HKw20.out.size))
 have HLO := Lib.hid (HLO.out.below HL.out)
 have HLB := Lib.hid (HLB.out.below HL.out)
 have HT := Lib.hid (HT.out.below HL.out)
 have HX1 := Lib.hid (HX1.out.below HL.out)
 have HX2 := Lib.hid (HX2.out.below HL.out)
 clear hb HC HL
 clear HT HX1 HX2
 have hI := IsAt.lit (xs := [2, 3]) (n := 2) (Blk.new w21 2 #[.int .i64 2, .int .i64 3]) rfl rfl
 have HC := Lib.hid (shares_yes false (some ⟨mh, 0, none⟩) (some ⟨w21.heap.size, 0, none⟩) 2 2 cbp 2 exB 5 45 (w21.alloc (.cells #[.int .i64 2, .int .i64 3] 2)) (HLB.out.below ((Kp.refl w21).alloc _)) HVB.out (by omega) (by rw [exB_tot]; omega) (by omega) (by rw [exB_s5]; exact hI) exB_c5.symm (by unfold Fits; omega) (by rw [exB_s5]; simp [Fits]))
 clear hI
 go_wp2_with fail
 refine HC.out.mono ?_
 rintro e w22 ⟨rfl, hb⟩
 have HL := Lib.hid (show Below w21.heap.size w21 w22 from ((Below.refl _ _).alloc (Nat.le_refl _) _).trans (hb.mono (by simp)))
 have HKw22 := Lib.hid (HKw21.out.trans (HL.out.mono HKw21.out.size))
 have HLO := Lib.hid (HLO.out.below HL.out)
 have HLB := Lib.hid (HLB.out.below HL.out)
 clear hb HC HL
 go_wp2
 go_ret
 exact ⟨rfl, HKw22.out⟩

end Go.Proofs.YtjajigkacccdgaaGreat

namespace Go.Proofs.YtjajigkacccdgaaGreat
set_option linter.unusedVariables false
set_option linter.unusedSimpArgs false
open Go.RowKit
open Wd

theorem longC_no {ls : List (List (Int × Int))} (h : longC ls = false) : ls.length ≤ 40 ∧ ∀ l ∈ ls, l.length ≤ 20 := by
 unfold longC at h
 rw [Bool.or_eq_false_iff] at h
 refine ⟨by have := h.1; simp at this; exact this, fun l hl => ?_⟩
 have := List.any_eq_false.1 h.2 l hl
 simpa using this
theorem longC_small {ls : List (List (Int × Int))} (h : longC ls = false) : ∀ l ∈ ls, l.length ≤ 1000000000000 := fun l hl => by have := (longC_no h).2 l hl; omega
/-- A slice value. -/
def slv (x : Option Addr × Nat × Nat) : Value := .slice x.1 x.2.1 x.2.2

theorem Own.css {base : Nat} {e : TypeId} {w : World} {A : Option Addr} {n c : Nat} {vs : List (Option Addr × Nat × Nat)} {ls : List (List (Int × Int))} (h : Own base e 1 w A n c (vs.map slv)) (hl : ls.length = n) (hv : ∀ j, j < n → StAt w (vs[j]?.getD (none, 0, 0)).1 (vs[j]?.getD (none, 0, 0)).2.1 (ls[j]?.getD [])) : CsAt w A n ls := by
 have hvl : vs.length = n := by have := h.1; simpa using this
 refine ⟨hl, fun hn => ?_⟩
 obtain ⟨g, cap, hv2, hb, hlt⟩ := World.ownsRow.form h (by omega)
 simp at hv2
 obtain ⟨rfl, rfl⟩ := hv2
 refine ⟨g, 0, rfl, hlt, fun j hj => ⟨_, _, (vs[j]?.getD (none, 0, 0)).2.2, ?_, hv j hj⟩⟩
 rw [Nat.zero_add, World.ownsRow.cellAt h j (by simp; omega), List.getElem?_map, List.getElem?_eq_getElem (by omega)]
 rfl
theorem slv_one (x : Option Addr × Nat × Nat) : ∀ u ∈ (#[.slice x.1 x.2.1 x.2.2] : Array Value).toList, u.oneCell' = true := by
 intro u hu
 simp at hu
 rw [hu]
 rfl
theorem info_steps : (Tryz.prog.info? 29).map (fun i => (i.zero, i.size, i.bytes)) = some (some (.slice none 0 0), 1, 24) := by kernel_rfl

end Go.Proofs.YtjajigkacccdgaaGreat
