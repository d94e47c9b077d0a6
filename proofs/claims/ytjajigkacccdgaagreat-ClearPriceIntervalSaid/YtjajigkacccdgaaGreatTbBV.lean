/-
The statements of layer 25: awake. The statements of layer 25: Long, may; plain law of rotated offers and bids. clear.total: money and quantity of one side of a trade, whatever the sizes. clear.Welfare of a balanced trade, whatever the sizes. No statement of the seat is proved here; no conditions beyond those of each theorem.
-/
import Derived.Test.YtjajigkacccdgaaGreatTbBU
import Derived.Test.YtjajigkacccdgaaGreatTbBO
import Derived.Test.YtjajigkacccdgaaGreatTbBP
import Derived.Test.YtjajigkacccdgaaGreatTbBM
import Derived.Deep.DrawnRows
import Derived.Test.YtjajigkacccdgaaGreatTbBR
namespace Go.Proofs.YtjajigkacccdgaaGreat
set_option linter.unusedVariables false
set_option linter.unusedSimpArgs false
open Go.RowKit
open Wd
set_option maxRecDepth 100000 in
set_option maxHeartbeats 8000000 in
theorem awake25_any (w : World) : Calls Tryz.prog 46 #[] w fun e w' => e = .returned (.bool true) ∧ Below w.heap.size w w' := by
 have HKw := Lib.hid (Below.refl w.heap.size w)
 go_enter Tryz.func46, Tryz.ntmps46
 have hcv := curve25_any (some ⟨w.heap.size, 0, none⟩) 2 4 [5, 1, 4, 3] _ (IsAt.lit (Blk.new w 2 #[.int .i64 5, .int .i64 1, .int .i64 4, .int .i64 3]) rfl rfl) (by omega) (fits_lit (by simp))
 rw [show prs [5, 1, 4, 3] 2 = [(5, 1), (4, 3)] from rfl] at hcv
 have HC := Lib.hid (hcv)
 go_wp2_with fail
 refine HC.out.mono ?_
 rintro e w1 ⟨A1, c1, rfl, hS, hb⟩
 have HL := Lib.hid (show Below w.heap.size w w1 from Below.trans ((Kp.refl w).alloc (.cells #[.int .i64 5, .int .i64 1, .int .i64 4, .int .i64 3] 2)) (hb.mono (Below.size ((Kp.refl w).alloc (.cells #[.int .i64 5, .int .i64 1, .int .i64 4, .int .i64 3] 2)))))
 have HKw1 := Lib.hid (HKw.out.trans (HL.out.mono HKw.out.size))
 have HS1 := Lib.hid hS
 clear hS hcv
 clear hb HC HL HKw
 have hcv := curve25_any (some ⟨w1.heap.size, 0, none⟩) 1 2 [3, 2] _ (IsAt.lit (Blk.new w1 2 #[.int .i64 3, .int .i64 2]) rfl rfl) (by omega) (fits_lit (by simp))
 rw [show prs [3, 2] 1 = [(3, 2)] from rfl] at hcv
 have HC := Lib.hid (hcv)
 go_wp2_with fail
 refine HC.out.mono ?_
 rintro e w2 ⟨A2, c2, rfl, hS, hb⟩
 have HL := Lib.hid (show Below w1.heap.size w1 w2 from Below.trans ((Kp.refl w1).alloc (.cells #[.int .i64 3, .int .i64 2] 2)) (hb.mono (Below.size ((Kp.refl w1).alloc (.cells #[.int .i64 3, .int .i64 2] 2)))))
 have HKw2 := Lib.hid (HKw1.out.trans (HL.out.mono HKw1.out.size))
 have HS2 := Lib.hid hS
 clear hS hcv
 have HS1 := Lib.hid (HS1.out.below HL.out)
 clear hb HC HL HKw1
 have kx := ((Kp.refl w2).alloc (.cells #[.slice A1 2 c1, .slice A2 1 c2] 29))
 have hcs := CsAt.two (Blk.new w2 29 #[.slice A1 2 c1, .slice A2 1 c2]) (HS1.out.below kx) (HS2.out.below kx)
 have HC := Lib.hid (some25 (some ⟨w2.heap.size, 0, none⟩) 2 2 (w2.alloc (.cells #[.slice A1 2 c1, .slice A2 1 c2] 29)))
 go_wp2_with fail
 refine HC.out.mono ?_
 rintro e w3 ⟨rfl, hb⟩
 have HL := Lib.hid (show Below w2.heap.size w2 w3 from Below.trans ((Kp.refl w2).alloc (.cells #[.slice A1 2 c1, .slice A2 1 c2] 29)) (hb.mono (Below.size ((Kp.refl w2).alloc (.cells #[.slice A1 2 c1, .slice A2 1 c2] 29)))))
 have HKw3 := Lib.hid (HKw2.out.trans (HL.out.mono HKw2.out.size))
 have HO1 := Lib.hid (hcs.below hb)
 clear hcs kx
 have HS1 := Lib.hid (HS1.out.below HL.out)
 have HS2 := Lib.hid (HS2.out.below HL.out)
 clear hb HC HL HKw2
 clear HS1 HS2
 have hcv := curve25_any (some ⟨w3.heap.size, 0, none⟩) 2 4 [4, 9, 4, 2] _ (IsAt.lit (Blk.new w3 2 #[.int .i64 4, .int .i64 9, .int .i64 4, .int .i64 2]) rfl rfl) (by omega) (fits_lit (by simp))
 rw [show prs [4, 9, 4, 2] 2 = [(4, 9), (4, 2)] from rfl] at hcv
 have HC := Lib.hid (hcv)
 go_wp2_with fail
 refine HC.out.mono ?_
 rintro e w4 ⟨A3, c3, rfl, hS, hb⟩
 have HL := Lib.hid (show Below w3.heap.size w3 w4 from Below.trans ((Kp.refl w3).alloc (.cells #[.int .i64 4, .int .i64 9, .int .i64 4, .int .i64 2] 2)) (hb.mono (Below.size ((Kp.refl w3).alloc (.cells #[.int .i64 4, .int .i64 9, .int .i64 4, .int .i64 2] 2)))))
 have HKw4 := Lib.hid (HKw3.out.trans (HL.out.mono HKw3.out.size))
 have HS3 := Lib.hid hS
 clear hS hcv
 have HO1 := Lib.hid (HO1.out.below HL.out)
 clear hb HC HL HKw3
 have hcv := curve25_any (some ⟨w4.heap.size, 0, none⟩) 1 2 [3, 4] _ (IsAt.lit (Blk.new w4 2 #[.int .i64 3, .int .i64 4]) rfl rfl) (by omega) (fits_lit (by simp))
 rw [show prs [3, 4] 1 = [(3, 4)] from rfl] at hcv
 have HC := Lib.hid (hcv)
 go_wp2_with fail
 refine HC.out.mono ?_
 rintro e w5 ⟨A4, c4, rfl, hS, hb⟩
 have HL := Lib.hid (show Below w4.heap.size w4 w5 from Below.trans ((Kp.refl w4).alloc (.cells #[.int .i64 3, .int .i64 4] 2)) (hb.mono (Below.size ((Kp.refl w4).alloc (.cells #[.int .i64 3, .int .i64 4] 2)))))
 have HKw5 := Lib.hid (HKw4.out.trans (HL.out.mono HKw4.out.size))
 have HS4 := Lib.hid hS
 clear hS hcv
 have HO1 := Lib.hid (HO1.out.below HL.out)
 have HS3 := Lib.hid (HS3.out.below HL.out)
 clear hb HC HL HKw4
 have kx := ((Kp.refl w5).alloc (.cells #[.slice A3 2 c3, .slice A4 1 c4] 29))
 have hcs := CsAt.two (Blk.new w5 29 #[.slice A3 2 c3, .slice A4 1 c4]) (HS3.out.below kx) (HS4.out.below kx)
 have HC := Lib.hid (some25 (some ⟨w5.heap.size, 0, none⟩) 2 2 (w5.alloc (.cells #[.slice A3 2 c3, .slice A4 1 c4] 29)))
 go_wp2_with fail
 refine HC.out.mono ?_
 rintro e w6 ⟨rfl, hb⟩
 have HL := Lib.hid (show Below w5.heap.size w5 w6 from Below.trans ((Kp.refl w5).alloc (.cells #[.slice A3 2 c3, .slice A4 1 c4] 29)) (hb.mono (Below.size ((Kp.refl w5).alloc (.cells #[.slice A3 2 c3, .slice A4 1 c4] 29)))))
 have HKw6 := Lib.hid (HKw5.out.trans (HL.out.mono HKw5.out.size))
 have HB1 := Lib.hid (hcs.below hb)
 clear hcs kx
 have HO1 := Lib.hid (HO1.out.below HL.out)
 have HS3 := Lib.hid (HS3.out.below HL.out)
 have HS4 := Lib.hid (HS4.out.below HL.out)
 clear hb HC HL HKw5
 clear HS3 HS4
 have HC := Lib.hid (found_yes (some ⟨w2.heap.size, 0, none⟩) (some ⟨w5.heap.size, 0, none⟩) (some ⟨w6.heap.size, 0, none⟩) (some ⟨w6.heap.size + 1, 0, none⟩) 2 2 2 2 2 2 _ _ _ _ _ _ _ _ _ ((w6.alloc (.cells #[.int .i64 5, .int .i64 2] 2)).alloc (.cells #[.int .i64 4, .int .i64 3] 2)) (HO1.out.below (((Kp.refl w6).alloc (.cells #[.int .i64 5, .int .i64 2] 2)).alloc (.cells #[.int .i64 4, .int .i64 3] 2))) (HB1.out.below (((Kp.refl w6).alloc (.cells #[.int .i64 5, .int .i64 2] 2)).alloc (.cells #[.int .i64 4, .int .i64 3] 2))) (IsAt.lit ((Blk.new w6 2 #[.int .i64 5, .int .i64 2]).alloc (.cells #[.int .i64 4, .int .i64 3] 2)) rfl rfl) (IsAt.lit (Blk.new1 w6 (.cells #[.int .i64 5, .int .i64 2] 2) 2 #[.int .i64 4, .int .i64 3]) rfl rfl) ex25_0_ck ex25_0)
 go_wp2_with fail
 refine HC.out.mono ?_
 rintro e w7 ⟨rfl, hb⟩
 have HL := Lib.hid (show Below w6.heap.size w6 w7 from Below.trans (((Kp.refl w6).alloc (.cells #[.int .i64 5, .int .i64 2] 2)).alloc (.cells #[.int .i64 4, .int .i64 3] 2)) (hb.mono (Below.size (((Kp.refl w6).alloc (.cells #[.int .i64 5, .int .i64 2] 2)).alloc (.cells #[.int .i64 4, .int .i64 3] 2)))))
 have HKw7 := Lib.hid (HKw6.out.trans (HL.out.mono HKw6.out.size))
 have HO1 := Lib.hid (HO1.out.below HL.out)
 have HB1 := Lib.hid (HB1.out.below HL.out)
 clear hb HC HL HKw6
 clear HB1
 have HC := Lib.hid (found_yes (some ⟨w2.heap.size, 0, none⟩) none (some ⟨w7.heap.size, 0, none⟩) none 2 2 0 0 2 0 _ _ _ _ _ _ _ _ _ (w7.alloc (.cells #[.int .i64 0, .int .i64 0] 2)) (HO1.out.below ((Kp.refl w7).alloc (.cells #[.int .i64 0, .int .i64 0] 2))) ⟨rfl, fun h => absurd rfl h⟩ (IsAt.lit (Blk.new w7 2 #[.int .i64 0, .int .i64 0]) rfl rfl) ⟨rfl, fun h => absurd rfl h⟩ ex25_1_ck ex25_1)
 go_wp2_with fail
 refine HC.out.mono ?_
 rintro e w8 ⟨rfl, hb⟩
 have HL := Lib.hid (show Below w7.heap.size w7 w8 from Below.trans ((Kp.refl w7).alloc (.cells #[.int .i64 0, .int .i64 0] 2)) (hb.mono (Below.size ((Kp.refl w7).alloc (.cells #[.int .i64 0, .int .i64 0] 2)))))
 have HKw8 := Lib.hid (HKw7.out.trans (HL.out.mono HKw7.out.size))
 have HO1 := Lib.hid (HO1.out.below HL.out)
 clear hb HC HL HKw7
 clear HO1
 have hcv := curve25_any (some ⟨w8.heap.size, 0, none⟩) 1 2 [2, -5] _ (IsAt.lit (Blk.new w8 2 #[.int .i64 2, .int .i64 (-5)]) rfl rfl) (by omega) (fits_lit (by simp))
 rw [show prs [2, -5] 1 = [(2, -5)] from rfl] at hcv
 have HC := Lib.hid (hcv)
 go_wp2_with fail
 refine HC.out.mono ?_
 rintro e w9 ⟨A5, c5, rfl, hS, hb⟩
 have HL := Lib.hid (show Below w8.heap.size w8 w9 from Below.trans ((Kp.refl w8).alloc (.cells #[.int .i64 2, .int .i64 (-5)] 2)) (hb.mono (Below.size ((Kp.refl w8).alloc (.cells #[.int .i64 2, .int .i64 (-5)] 2)))))
 have HKw9 := Lib.hid (HKw8.out.trans (HL.out.mono HKw8.out.size))
 have HS5 := Lib.hid hS
 clear hS hcv
 clear hb HC HL HKw8
 have kx := ((Kp.refl w9).alloc (.cells #[.slice A5 1 c5] 29))
 have hcs := CsAt.one (Blk.new w9 29 #[.slice A5 1 c5]) (HS5.out.below kx)
 have HC := Lib.hid (some25 (some ⟨w9.heap.size, 0, none⟩) 1 1 (w9.alloc (.cells #[.slice A5 1 c5] 29)))
 go_wp2_with fail
 refine HC.out.mono ?_
 rintro e w10 ⟨rfl, hb⟩
 have HL := Lib.hid (show Below w9.heap.size w9 w10 from Below.trans ((Kp.refl w9).alloc (.cells #[.slice A5 1 c5] 29)) (hb.mono (Below.size ((Kp.refl w9).alloc (.cells #[.slice A5 1 c5] 29)))))
 have HKw10 := Lib.hid (HKw9.out.trans (HL.out.mono HKw9.out.size))
 have HO2 := Lib.hid (hcs.below hb)
 clear hcs kx
 have HS5 := Lib.hid (HS5.out.below HL.out)
 clear hb HC HL HKw9
 clear HS5
 have HC := Lib.hid (found_yes (some ⟨w9.heap.size, 0, none⟩) none (some ⟨w10.heap.size, 0, none⟩) none 1 1 0 0 1 0 _ _ _ _ _ _ _ _ _ (w10.alloc (.cells #[.int .i64 0] 2)) (HO2.out.below ((Kp.refl w10).alloc (.cells #[.int .i64 0] 2))) ⟨rfl, fun h => absurd rfl h⟩ (IsAt.lit (Blk.new w10 2 #[.int .i64 0]) rfl rfl) ⟨rfl, fun h => absurd rfl h⟩ ex25_2_ck ex25_2)
 go_wp2_with fail
 refine HC.out.mono ?_
 rintro e w11 ⟨rfl, hb⟩
 have HL := Lib.hid (show Below w10.heap.size w10 w11 from Below.trans ((Kp.refl w10).alloc (.cells #[.int .i64 0] 2)) (hb.mono (Below.size ((Kp.refl w10).alloc (.cells #[.int .i64 0] 2)))))
 have HKw11 := Lib.hid (HKw10.out.trans (HL.out.mono HKw10.out.size))
 have HO2 := Lib.hid (HO2.out.below HL.out)
 clear hb HC HL HKw10
 clear HO2
 have hcv := curve25_any (some ⟨w11.heap.size, 0, none⟩) 1 2 [2, 3] _ (IsAt.lit (Blk.new w11 2 #[.int .i64 2, .int .i64 3]) rfl rfl) (by omega) (fits_lit (by simp))
 rw [show prs [2, 3] 1 = [(2, 3)] from rfl] at hcv
 have HC := Lib.hid (hcv)
 go_wp2_with fail
 refine HC.out.mono ?_
 rintro e w12 ⟨A6, c6, rfl, hS, hb⟩
 have HL := Lib.hid (show Below w11.heap.size w11 w12 from Below.trans ((Kp.refl w11).alloc (.cells #[.int .i64 2, .int .i64 3] 2)) (hb.mono (Below.size ((Kp.refl w11).alloc (.cells #[.int .i64 2, .int .i64 3] 2)))))
 have HKw12 := Lib.hid (HKw11.out.trans (HL.out.mono HKw11.out.size))
 have HS6 := Lib.hid hS
 clear hS hcv
 clear hb HC HL HKw11
 have kx := ((Kp.refl w12).alloc (.cells #[.slice A6 1 c6] 29))
 have hcs := CsAt.one (Blk.new w12 29 #[.slice A6 1 c6]) (HS6.out.below kx)
 have HC := Lib.hid (some25 (some ⟨w12.heap.size, 0, none⟩) 1 1 (w12.alloc (.cells #[.slice A6 1 c6] 29)))
 go_wp2_with fail
 refine HC.out.mono ?_
 rintro e w13 ⟨rfl, hb⟩
 have HL := Lib.hid (show Below w12.heap.size w12 w13 from Below.trans ((Kp.refl w12).alloc (.cells #[.slice A6 1 c6] 29)) (hb.mono (Below.size ((Kp.refl w12).alloc (.cells #[.slice A6 1 c6] 29)))))
 have HKw13 := Lib.hid (HKw12.out.trans (HL.out.mono HKw12.out.size))
 have HO3 := Lib.hid (hcs.below hb)
 clear hcs kx
 have HS6 := Lib.hid (HS6.out.below HL.out)
 clear hb HC HL HKw12
 clear HS6
 have hcv := curve25_any (some ⟨w13.heap.size, 0, none⟩) 1 2 [5, 8] _ (IsAt.lit (Blk.new w13 2 #[.int .i64 5, .int .i64 8]) rfl rfl) (by omega) (fits_lit (by simp))
 rw [show prs [5, 8] 1 = [(5, 8)] from rfl] at hcv
 have HC := Lib.hid (hcv)
 go_wp2_with fail
 refine HC.out.mono ?_
 rintro e w14 ⟨A7, c7, rfl, hS, hb⟩
 have HL := Lib.hid (show Below w13.heap.size w13 w14 from Below.trans ((Kp.refl w13).alloc (.cells #[.int .i64 5, .int .i64 8] 2)) (hb.mono (Below.size ((Kp.refl w13).alloc (.cells #[.int .i64 5, .int .i64 8] 2)))))
 have HKw14 := Lib.hid (HKw13.out.trans (HL.out.mono HKw13.out.size))
 have HS7 := Lib.hid hS
 clear hS hcv
 have HO3 := Lib.hid (HO3.out.below HL.out)
 clear hb HC HL HKw13
 have kx := ((Kp.refl w14).alloc (.cells #[.slice A7 1 c7] 29))
 have hcs := CsAt.one (Blk.new w14 29 #[.slice A7 1 c7]) (HS7.out.below kx)
 have HC := Lib.hid (some25 (some ⟨w14.heap.size, 0, none⟩) 1 1 (w14.alloc (.cells #[.slice A7 1 c7] 29)))
 go_wp2_with fail
 refine HC.out.mono ?_
 rintro e w15 ⟨rfl, hb⟩
 have HL := Lib.hid (show Below w14.heap.size w14 w15 from Below.trans ((Kp.refl w14).alloc (.cells #[.slice A7 1 c7] 29)) (hb.mono (Below.size ((Kp.refl w14).alloc (.cells #[.slice A7 1 c7] 29)))))
 have HKw15 := Lib.hid (HKw14.out.trans (HL.out.mono HKw14.out.size))
 have HB3 := Lib.hid (hcs.below hb)
 clear hcs kx
 have HO3 := Lib.hid (HO3.out.below HL.out)
 have HS7 := Lib.hid (HS7.out.below HL.out)
 clear hb HC HL HKw14
 clear HS7
 have HC := Lib.hid (found_yes (some ⟨w12.heap.size, 0, none⟩) (some ⟨w14.heap.size, 0, none⟩) (some ⟨w15.heap.size, 0, none⟩) (some ⟨w15.heap.size + 1, 0, none⟩) 1 1 1 1 1 1 _ _ _ _ _ _ _ _ _ ((w15.alloc (.cells #[.int .i64 2] 2)).alloc (.cells #[.int .i64 2] 2)) (HO3.out.below (((Kp.refl w15).alloc (.cells #[.int .i64 2] 2)).alloc (.cells #[.int .i64 2] 2))) (HB3.out.below (((Kp.refl w15).alloc (.cells #[.int .i64 2] 2)).alloc (.cells #[.int .i64 2] 2))) (IsAt.lit ((Blk.new w15 2 #[.int .i64 2]).alloc (.cells #[.int .i64 2] 2)) rfl rfl) (IsAt.lit (Blk.new1 w15 (.cells #[.int .i64 2] 2) 2 #[.int .i64 2]) rfl rfl) ex25_3_ck ex25_3)
 go_wp2_with fail
 refine HC.out.mono ?_
 rintro e w16 ⟨rfl, hb⟩
 have HL := Lib.hid (show Below w15.heap.size w15 w16 from Below.trans (((Kp.refl w15).alloc (.cells #[.int .i64 2] 2)).alloc (.cells #[.int .i64 2] 2)) (hb.mono (Below.size (((Kp.refl w15).alloc (.cells #[.int .i64 2] 2)).alloc (.cells #[.int .i64 2] 2)))))
 have HKw16 := Lib.hid (HKw15.out.trans (HL.out.mono HKw15.out.size))
 have HO3 := Lib.hid (HO3.out.below HL.out)
 have HB3 := Lib.hid (HB3.out.below HL.out)
 clear hb HC HL HKw15
 clear HO3
 clear HB3
 have hcv := curve25_any (some ⟨w16.heap.size, 0, none⟩) 1 2 [5, 3] _ (IsAt.lit (Blk.new w16 2 #[.int .i64 5, .int .i64 3]) rfl rfl) (by omega) (fits_lit (by simp))
 rw [show prs [5, 3] 1 = [(5, 3)] from rfl] at hcv
 have HC := Lib.hid (hcv)
 go_wp2_with fail
 refine HC.out.mono ?_
 rintro e w17 ⟨A8, c8, rfl, hS, hb⟩
 have HL := Lib.hid (show Below w16.heap.size w16 w17 from Below.trans ((Kp.refl w16).alloc (.cells #[.int .i64 5, .int .i64 3] 2)) (hb.mono (Below.size ((Kp.refl w16).alloc (.cells #[.int .i64 5, .int .i64 3] 2)))))
 have HKw17 := Lib.hid (HKw16.out.trans (HL.out.mono HKw16.out.size))
 have HS8 := Lib.hid hS
 clear hS hcv
 clear hb HC HL HKw16
 have kx := ((Kp.refl w17).alloc (.cells #[.slice A8 1 c8] 29))
 have hcs := CsAt.one (Blk.new w17 29 #[.slice A8 1 c8]) (HS8.out.below kx)
 have HC := Lib.hid (some25 (some ⟨w17.heap.size, 0, none⟩) 1 1 (w17.alloc (.cells #[.slice A8 1 c8] 29)))
 go_wp2_with fail
 refine HC.out.mono ?_
 rintro e w18 ⟨rfl, hb⟩
 have HL := Lib.hid (show Below w17.heap.size w17 w18 from Below.trans ((Kp.refl w17).alloc (.cells #[.slice A8 1 c8] 29)) (hb.mono (Below.size ((Kp.refl w17).alloc (.cells #[.slice A8 1 c8] 29)))))
 have HKw18 := Lib.hid (HKw17.out.trans (HL.out.mono HKw17.out.size))
 have HO4 := Lib.hid (hcs.below hb)
 clear hcs kx
 have HS8 := Lib.hid (HS8.out.below HL.out)
 clear hb HC HL HKw17
 clear HS8
 have hcv := curve25_any (some ⟨w18.heap.size, 0, none⟩) 1 2 [2, 8] _ (IsAt.lit (Blk.new w18 2 #[.int .i64 2, .int .i64 8]) rfl rfl) (by omega) (fits_lit (by simp))
 rw [show prs [2, 8] 1 = [(2, 8)] from rfl] at hcv
 have HC := Lib.hid (hcv)
 go_wp2_with fail
 refine HC.out.mono ?_
 rintro e w19 ⟨A9, c9, rfl, hS, hb⟩
 have HL := Lib.hid (show Below w18.heap.size w18 w19 from Below.trans ((Kp.refl w18).alloc (.cells #[.int .i64 2, .int .i64 8] 2)) (hb.mono (Below.size ((Kp.refl w18).alloc (.cells #[.int .i64 2, .int .i64 8] 2)))))
 have HKw19 := Lib.hid (HKw18.out.trans (HL.out.mono HKw18.out.size))
 have HS9 := Lib.hid hS
 clear hS hcv
 have HO4 := Lib.hid (HO4.out.below HL.out)
 clear hb HC HL HKw18
 have kx := ((Kp.refl w19).alloc (.cells #[.slice A9 1 c9] 29))
 have hcs := CsAt.one (Blk.new w19 29 #[.slice A9 1 c9]) (HS9.out.below kx)
 have HC := Lib.hid (some25 (some ⟨w19.heap.size, 0, none⟩) 1 1 (w19.alloc (.cells #[.slice A9 1 c9] 29)))
 go_wp2_with fail
 refine HC.out.mono ?_
 rintro e w20 ⟨rfl, hb⟩
 have HL := Lib.hid (show Below w19.heap.size w19 w20 from Below.trans ((Kp.refl w19).alloc (.cells #[.slice A9 1 c9] 29)) (hb.mono (Below.size ((Kp.refl w19).alloc (.cells #[.slice A9 1 c9] 29)))))
 have HKw20 := Lib.hid (HKw19.out.trans (HL.out.mono HKw19.out.size))
 have HB4 := Lib.hid (hcs.below hb)
 clear hcs kx
 have HO4 := Lib.hid (HO4.out.below HL.out)
 have HS9 := Lib.hid (HS9.out.below HL.out)
 clear hb HC HL HKw19
 clear HS9
 have HC := Lib.hid (found_yes (some ⟨w17.heap.size, 0, none⟩) (some ⟨w19.heap.size, 0, none⟩) (some ⟨w20.heap.size, 0, none⟩) (some ⟨w20.heap.size + 1, 0, none⟩) 1 1 1 1 1 1 _ _ _ _ _ _ _ _ _ ((w20.alloc (.cells #[.int .i64 2] 2)).alloc (.cells #[.int .i64 2] 2)) (HO4.out.below (((Kp.refl w20).alloc (.cells #[.int .i64 2] 2)).alloc (.cells #[.int .i64 2] 2))) (HB4.out.below (((Kp.refl w20).alloc (.cells #[.int .i64 2] 2)).alloc (.cells #[.int .i64 2] 2))) (IsAt.lit ((Blk.new w20 2 #[.int .i64 2]).alloc (.cells #[.int .i64 2] 2)) rfl rfl) (IsAt.lit (Blk.new1 w20 (.cells #[.int .i64 2] 2) 2 #[.int .i64 2]) rfl rfl) ex25_4_ck ex25_4)
 go_wp2_with fail
 refine HC.out.mono ?_
 rintro e w21 ⟨rfl, hb⟩
 have HL := Lib.hid (show Below w20.heap.size w20 w21 from Below.trans (((Kp.refl w20).alloc (.cells #[.int .i64 2] 2)).alloc (.cells #[.int .i64 2] 2)) (hb.mono (Below.size (((Kp.refl w20).alloc (.cells #[.int .i64 2] 2)).alloc (.cells #[.int .i64 2] 2)))))
 have HKw21 := Lib.hid (HKw20.out.trans (HL.out.mono HKw20.out.size))
 have HO4 := Lib.hid (HO4.out.below HL.out)
 have HB4 := Lib.hid (HB4.out.below HL.out)
 clear hb HC HL HKw20
 clear HO4
 clear HB4
 have hcv := curve25_any (some ⟨w21.heap.size, 0, none⟩) 1 2 [5, -4] _ (IsAt.lit (Blk.new w21 2 #[.int .i64 5, .int .i64 (-4)]) rfl rfl) (by omega) (fits_lit (by simp))
 rw [show prs [5, -4] 1 = [(5, -4)] from rfl] at hcv
 have HC := Lib.hid (hcv)
 go_wp2_with fail
 refine HC.out.mono ?_
 rintro e w22 ⟨A10, c10, rfl, hS, hb⟩
 have HL := Lib.hid (show Below w21.heap.size w21 w22 from Below.trans ((Kp.refl w21).alloc (.cells #[.int .i64 5, .int .i64 (-4)] 2)) (hb.mono (Below.size ((Kp.refl w21).alloc (.cells #[.int .i64 5, .int .i64 (-4)] 2)))))
 have HKw22 := Lib.hid (HKw21.out.trans (HL.out.mono HKw21.out.size))
 have HS10 := Lib.hid hS
 clear hS hcv
 clear hb HC HL HKw21
 have kx := ((Kp.refl w22).alloc (.cells #[.slice A10 1 c10] 29))
 have hcs := CsAt.one (Blk.new w22 29 #[.slice A10 1 c10]) (HS10.out.below kx)
 have HC := Lib.hid (some25 (some ⟨w22.heap.size, 0, none⟩) 1 1 (w22.alloc (.cells #[.slice A10 1 c10] 29)))
 go_wp2_with fail
 refine HC.out.mono ?_
 rintro e w23 ⟨rfl, hb⟩
 have HL := Lib.hid (show Below w22.heap.size w22 w23 from Below.trans ((Kp.refl w22).alloc (.cells #[.slice A10 1 c10] 29)) (hb.mono (Below.size ((Kp.refl w22).alloc (.cells #[.slice A10 1 c10] 29)))))
 have HKw23 := Lib.hid (HKw22.out.trans (HL.out.mono HKw22.out.size))
 have HO5 := Lib.hid (hcs.below hb)
 clear hcs kx
 have HS10 := Lib.hid (HS10.out.below HL.out)
 clear hb HC HL HKw22
 clear HS10
 have hcv := curve25_any (some ⟨w23.heap.size, 0, none⟩) 1 2 [5, 6] _ (IsAt.lit (Blk.new w23 2 #[.int .i64 5, .int .i64 6]) rfl rfl) (by omega) (fits_lit (by simp))
 rw [show prs [5, 6] 1 = [(5, 6)] from rfl] at hcv
 have HC := Lib.hid (hcv)
 go_wp2_with fail
 refine HC.out.mono ?_
 rintro e w24 ⟨A11, c11, rfl, hS, hb⟩
 have HL := Lib.hid (show Below w23.heap.size w23 w24 from Below.trans ((Kp.refl w23).alloc (.cells #[.int .i64 5, .int .i64 6] 2)) (hb.mono (Below.size ((Kp.refl w23).alloc (.cells #[.int .i64 5, .int .i64 6] 2)))))
 have HKw24 := Lib.hid (HKw23.out.trans (HL.out.mono HKw23.out.size))
 have HS11 := Lib.hid hS
 clear hS hcv
 have HO5 := Lib.hid (HO5.out.below HL.out)
 clear hb HC HL HKw23
 have kx := ((Kp.refl w24).alloc (.cells #[.slice A11 1 c11] 29))
 have hcs := CsAt.one (Blk.new w24 29 #[.slice A11 1 c11]) (HS11.out.below kx)
 have HC := Lib.hid (some25 (some ⟨w24.heap.size, 0, none⟩) 1 1 (w24.alloc (.cells #[.slice A11 1 c11] 29)))
 go_wp2_with fail
 refine HC.out.mono ?_
 rintro e w25 ⟨rfl, hb⟩
 have HL := Lib.hid (show Below w24.heap.size w24 w25 from Below.trans ((Kp.refl w24).alloc (.cells #[.slice A11 1 c11] 29)) (hb.mono (Below.size ((Kp.refl w24).alloc (.cells #[.slice A11 1 c11] 29)))))
 have HKw25 := Lib.hid (HKw24.out.trans (HL.out.mono HKw24.out.size))
 have HB5 := Lib.hid (hcs.below hb)
 clear hcs kx
 have HO5 := Lib.hid (HO5.out.below HL.out)
 have HS11 := Lib.hid (HS11.out.below HL.out)
 clear hb HC HL HKw24
 clear HS11
 have HC := Lib.hid (found_yes (some ⟨w22.heap.size, 0, none⟩) (some ⟨w24.heap.size, 0, none⟩) (some ⟨w25.heap.size, 0, none⟩) (some ⟨w25.heap.size + 1, 0, none⟩) 1 1 1 1 1 1 _ _ _ _ _ _ _ _ _ ((w25.alloc (.cells #[.int .i64 5] 2)).alloc (.cells #[.int .i64 5] 2)) (HO5.out.below (((Kp.refl w25).alloc (.cells #[.int .i64 5] 2)).alloc (.cells #[.int .i64 5] 2))) (HB5.out.below (((Kp.refl w25).alloc (.cells #[.int .i64 5] 2)).alloc (.cells #[.int .i64 5] 2))) (IsAt.lit ((Blk.new w25 2 #[.int .i64 5]).alloc (.cells #[.int .i64 5] 2)) rfl rfl) (IsAt.lit (Blk.new1 w25 (.cells #[.int .i64 5] 2) 2 #[.int .i64 5]) rfl rfl) ex25_5_ck ex25_5)
 go_wp2_with fail
 refine HC.out.mono ?_
 rintro e w26 ⟨rfl, hb⟩
 have HL := Lib.hid (show Below w25.heap.size w25 w26 from Below.trans (((Kp.refl w25).alloc (.cells #[.int .i64 5] 2)).alloc (.cells #[.int .i64 5] 2)) (hb.mono (Below.size (((Kp.refl w25).alloc (.cells #[.int .i64 5] 2)).alloc (.cells #[.int .i64 5] 2)))))
 have HKw26 := Lib.hid (HKw25.out.trans (HL.out.mono HKw25.out.size))
 have HO5 := Lib.hid (HO5.out.below HL.out)
 have HB5 := Lib.hid (HB5.out.below HL.out)
 clear hb HC HL HKw25
 clear HO5
 clear HB5
 go_wp2
 go_ret
 exact ⟨rfl, HKw26.out⟩

end Go.Proofs.YtjajigkacccdgaaGreat

namespace Go.Proofs.YtjajigkacccdgaaGreat
set_option linter.unusedVariables false
set_option linter.unusedSimpArgs false
open Go.RowKit
open Wd

set_option maxRecDepth 100000 in
set_option maxHeartbeats 2000000 in
theorem long25_any (A B : Option Addr) (n c m d : Nat) (os bs : List (List (Int × Int))) (w : World) (h : CsAt w A n os) (h' : CsAt w B m bs) :
  Calls Tryz.prog 45 #[.slice A n c, .slice B m d] w fun e w' => e = .returned (.bool (longC os || longC bs)) ∧ Below w.heap.size w w' := by
 have H1 := Lib.hid (long24_any A n c os w h)
 have H2 := Lib.hid (fun W (hW : Below w.heap.size w W) => long24_any B m d bs W (h'.below hW))
 clear h h'
 generalize longC os = x at *
 generalize longC bs = y at *
 go_enter Tryz.func45, Tryz.ntmps45
 go_wp2_with fail
 refine H1.out.mono ?_
 rintro e w1 ⟨rfl, hb1⟩
 have HB1 := Lib.hid hb1
 clear hb1
 cases x
 ·go_wp2_with fail
  refine (H2.out w1 HB1.out).mono ?_
  rintro e w2 ⟨rfl, hb2⟩
  have HB2 := Lib.hid (HB1.out.trans (hb2.mono HB1.out.size))
  clear hb2
  go_wp2
  go_ret
  exact ⟨rfl, HB2.out⟩
 ·go_wp2
  go_ret
  exact ⟨rfl, HB1.out⟩

set_option maxRecDepth 100000 in
set_option maxHeartbeats 2000000 in
theorem may_any (A B : Option Addr) (n c m d : Nat) (os bs : List (List (Int × Int))) (w : World) (h : CsAt w A n os) (h' : CsAt w B m bs) (hs : ∀ l ∈ os, l.length ≤ 1000000000000) (ht : ∀ l ∈ bs, l.length ≤ 1000000000000) :
  Calls Tryz.prog 50 #[.slice A n c, .slice B m d] w fun e w' => e = .returned (.bool (decide (ckB os bs = 0))) ∧ Below w.heap.size w w' := by
 by_cases hc : ckB os bs = 0
 ·rw [decide_eq_true hc]
  have HR := Lib.hid (run_ok A B n c m d os bs w h h' hc)
  clear h h' hs ht hc
  go_enter Tryz.func50, Tryz.ntmps50
  go_wp2_with fail
  refine HR.out.mono ?_
  rintro e w1 ⟨z, p, wf, xs, ys, S, D, g1, g2, rfl, -, -, -, -, -, hb1⟩
  have HB1 := Lib.hid (hb1.alloc hb1.size (.cells #[.int .i64 z, .int .i64 p, .int .i64 wf, .slice (some ⟨g1, 0, none⟩) os.length os.length, .slice (some ⟨g2, 0, none⟩) bs.length bs.length] 81))
  clear hb1 HR
  go_wp2
  go_ret
  exact ⟨rfl, HB1.out⟩
 ·rw [decide_eq_false hc]
  have HR := Lib.hid (run_no A B n c m d os bs w h h' hs ht hc)
  generalize ckB os bs = x at *
  have dx : (x == 0) = false := beq_false_of_ne hc
  clear h h' hs ht hc
  go_enter Tryz.func50, Tryz.ntmps50
  go_wp2_with fail
  refine HR.out.mono ?_
  rintro e w1 ⟨rfl, hb1⟩
  have HB1 := Lib.hid (hb1.alloc hb1.size (.cells #[.int .i64 0, .int .i64 0, .int .i64 0, .slice none 0 0, .slice none 0 0] 81))
  clear hb1 HR
  go_wp2
  go_ret
  exact ⟨rfl, HB1.out⟩










end Go.Proofs.YtjajigkacccdgaaGreat
namespace Go.Proofs.YtjajigkacccdgaaGreat
set_option linter.unusedVariables false
set_option linter.unusedSimpArgs false
open Go.RowKit
open Wd
attribute [local go_sem ↓] Go.wp_at_zero Go.wp_at_succ
section
variable {w wr : World} {g g' : Nat} {m s : Rat} {A A' B B' : Option Addr} {j c j' c' i d i' d' : Nat}



end

end Go.Proofs.YtjajigkacccdgaaGreat
namespace Go.Proofs.YtjajigkacccdgaaGreat
set_option linter.unusedVariables false
set_option linter.unusedSimpArgs false
open Go.RowKit
open Wd
end Go.Proofs.YtjajigkacccdgaaGreat