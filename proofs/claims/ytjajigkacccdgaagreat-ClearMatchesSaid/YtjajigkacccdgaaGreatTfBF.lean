/-
Lemmas of the walk; no further conditions.
-/
import Derived.Test.YtjajigkacccdgaaGreatTfBE
set_option linter.unusedVariables false
set_option linter.unusedSimpArgs false
set_option maxRecDepth 100000
set_option maxHeartbeats 16000000
namespace Go.Proofs.YtjajigkacccdgaaGreat
open Go.RowKit
open Wd
theorem awake25_any (w:World):Calls Tryz.prog 46 #[] w fun e w'=>e=.returned (.bool true)∧Below w.heap.size w w':=by
 have HKw:=Hj (Below.refl w.heap.size w);go_enter Tryz.func46,Tryz.ntmps46;have hcv:=curve25_any (some ⟨w.heap.size,0,none⟩) 2 4 [5,1,4,3] _ (IsAt.lit (Blk.new w 2 #[.int .i64 5,.int .i64 1,.int .i64 4,.int .i64 3]) rfl rfl) (by omega) (fits_lit (by simp));rw [show prs [5,1,4,3] 2=[(5,1),(4,3)] from rfl] at hcv;have HC:=Hj (hcv)
 go_wp2_with fail
 refine HC.out.mono ?_;rintro e w1 ⟨A1,c1,rfl,hS,hb⟩;have HL:=Hj (show Below w.heap.size w w1 from Below.trans ((Kp.refl w).alloc (.cells #[.int .i64 5,.int .i64 1,.int .i64 4,.int .i64 3] 2)) (hb.mono (Below.size ((Kp.refl w).alloc (.cells #[.int .i64 5,.int .i64 1,.int .i64 4,.int .i64 3] 2)))));have HKw1:=Hj (HKw.out.trans (HL.out.mono HKw.out.size));have HS1:=Hj hS;clear hS hcv;clear hb HC HL HKw;have hcv:=curve25_any (some ⟨w1.heap.size,0,none⟩) 1 2 [3,2] _ (IsAt.lit (Blk.new w1 2 #[.int .i64 3,.int .i64 2]) rfl rfl) (by omega) (fits_lit (by simp));rw [show prs [3,2] 1=[(3,2)] from rfl] at hcv;have HC:=Hj (hcv)
 go_wp2_with fail
 refine HC.out.mono ?_;rintro e w2 ⟨A2,c2,rfl,hS,hb⟩;have HL:=Hj (show Below w1.heap.size w1 w2 from Below.trans ((Kp.refl w1).alloc (.cells #[.int .i64 3,.int .i64 2] 2)) (hb.mono (Below.size ((Kp.refl w1).alloc (.cells #[.int .i64 3,.int .i64 2] 2)))));have HKw2:=Hj (HKw1.out.trans (HL.out.mono HKw1.out.size));have HS2:=Hj hS;clear hS hcv;have HS1:=Hj (HS1.out.below HL.out);clear hb HC HL HKw1;have kx:=((Kp.refl w2).alloc (.cells #[.slice A1 2 c1,.slice A2 1 c2] 29));have hcs:=CsAt.two (Blk.new w2 29 #[.slice A1 2 c1,.slice A2 1 c2]) (HS1.out.below kx) (HS2.out.below kx);have HC:=Hj (some25 (some ⟨w2.heap.size,0,none⟩) 2 2 (w2.alloc (.cells #[.slice A1 2 c1,.slice A2 1 c2] 29)))
 go_wp2_with fail
 refine HC.out.mono ?_;rintro e w3 ⟨rfl,hb⟩;have HL:=Hj (show Below w2.heap.size w2 w3 from Below.trans ((Kp.refl w2).alloc (.cells #[.slice A1 2 c1,.slice A2 1 c2] 29)) (hb.mono (Below.size ((Kp.refl w2).alloc (.cells #[.slice A1 2 c1,.slice A2 1 c2] 29)))));have HKw3:=Hj (HKw2.out.trans (HL.out.mono HKw2.out.size));have HO1:=Hj (hcs.below hb);clear hcs kx;have HS1:=Hj (HS1.out.below HL.out);have HS2:=Hj (HS2.out.below HL.out);clear hb HC HL HKw2;clear HS1 HS2;have hcv:=curve25_any (some ⟨w3.heap.size,0,none⟩) 2 4 [4,9,4,2] _ (IsAt.lit (Blk.new w3 2 #[.int .i64 4,.int .i64 9,.int .i64 4,.int .i64 2]) rfl rfl) (by omega) (fits_lit (by simp));rw [show prs [4,9,4,2] 2=[(4,9),(4,2)] from rfl] at hcv;have HC:=Hj (hcv)
 go_wp2_with fail
 refine HC.out.mono ?_;rintro e w4 ⟨A3,c3,rfl,hS,hb⟩;have HL:=Hj (show Below w3.heap.size w3 w4 from Below.trans ((Kp.refl w3).alloc (.cells #[.int .i64 4,.int .i64 9,.int .i64 4,.int .i64 2] 2)) (hb.mono (Below.size ((Kp.refl w3).alloc (.cells #[.int .i64 4,.int .i64 9,.int .i64 4,.int .i64 2] 2)))));have HKw4:=Hj (HKw3.out.trans (HL.out.mono HKw3.out.size));have HS3:=Hj hS;clear hS hcv;have HO1:=Hj (HO1.out.below HL.out);clear hb HC HL HKw3;have hcv:=curve25_any (some ⟨w4.heap.size,0,none⟩) 1 2 [3,4] _ (IsAt.lit (Blk.new w4 2 #[.int .i64 3,.int .i64 4]) rfl rfl) (by omega) (fits_lit (by simp));rw [show prs [3,4] 1=[(3,4)] from rfl] at hcv;have HC:=Hj (hcv)
 go_wp2_with fail
 refine HC.out.mono ?_;rintro e w5 ⟨A4,c4,rfl,hS,hb⟩;have HL:=Hj (show Below w4.heap.size w4 w5 from Below.trans ((Kp.refl w4).alloc (.cells #[.int .i64 3,.int .i64 4] 2)) (hb.mono (Below.size ((Kp.refl w4).alloc (.cells #[.int .i64 3,.int .i64 4] 2)))));have HKw5:=Hj (HKw4.out.trans (HL.out.mono HKw4.out.size));have HS4:=Hj hS;clear hS hcv;have HO1:=Hj (HO1.out.below HL.out);have HS3:=Hj (HS3.out.below HL.out);clear hb HC HL HKw4;have kx:=((Kp.refl w5).alloc (.cells #[.slice A3 2 c3,.slice A4 1 c4] 29));have hcs:=CsAt.two (Blk.new w5 29 #[.slice A3 2 c3,.slice A4 1 c4]) (HS3.out.below kx) (HS4.out.below kx);have HC:=Hj (some25 (some ⟨w5.heap.size,0,none⟩) 2 2 (w5.alloc (.cells #[.slice A3 2 c3,.slice A4 1 c4] 29)))
 go_wp2_with fail
 refine HC.out.mono ?_;rintro e w6 ⟨rfl,hb⟩;have HL:=Hj (show Below w5.heap.size w5 w6 from Below.trans ((Kp.refl w5).alloc (.cells #[.slice A3 2 c3,.slice A4 1 c4] 29)) (hb.mono (Below.size ((Kp.refl w5).alloc (.cells #[.slice A3 2 c3,.slice A4 1 c4] 29)))));have HKw6:=Hj (HKw5.out.trans (HL.out.mono HKw5.out.size));have HB1:=Hj (hcs.below hb);clear hcs kx;have HO1:=Hj (HO1.out.below HL.out);have HS3:=Hj (HS3.out.below HL.out);have HS4:=Hj (HS4.out.below HL.out);clear hb HC HL HKw5;clear HS3 HS4;have HC:=Hj (found_yes (some ⟨w2.heap.size,0,none⟩) (some ⟨w5.heap.size,0,none⟩) (some ⟨w6.heap.size,0,none⟩) (some ⟨w6.heap.size+1,0,none⟩) 2 2 2 2 2 2 _ _ _ _ _ _ _ _ _ ((w6.alloc (.cells #[.int .i64 5,.int .i64 2] 2)).alloc (.cells #[.int .i64 4,.int .i64 3] 2)) (HO1.out.below (((Kp.refl w6).alloc (.cells #[.int .i64 5,.int .i64 2] 2)).alloc (.cells #[.int .i64 4,.int .i64 3] 2))) (HB1.out.below (((Kp.refl w6).alloc (.cells #[.int .i64 5,.int .i64 2] 2)).alloc (.cells #[.int .i64 4,.int .i64 3] 2))) (IsAt.lit ((Blk.new w6 2 #[.int .i64 5,.int .i64 2]).alloc (.cells #[.int .i64 4,.int .i64 3] 2)) rfl rfl) (IsAt.lit (Blk.new1 w6 (.cells #[.int .i64 5,.int .i64 2] 2) 2 #[.int .i64 4,.int .i64 3]) rfl rfl) ex25_0_ck ex25_0)
 go_wp2_with fail
 refine HC.out.mono ?_;rintro e w7 ⟨rfl,hb⟩;have HL:=Hj (show Below w6.heap.size w6 w7 from Below.trans (((Kp.refl w6).alloc (.cells #[.int .i64 5,.int .i64 2] 2)).alloc (.cells #[.int .i64 4,.int .i64 3] 2)) (hb.mono (Below.size (((Kp.refl w6).alloc (.cells #[.int .i64 5,.int .i64 2] 2)).alloc (.cells #[.int .i64 4,.int .i64 3] 2)))));have HKw7:=Hj (HKw6.out.trans (HL.out.mono HKw6.out.size));have HO1:=Hj (HO1.out.below HL.out);have HB1:=Hj (HB1.out.below HL.out);clear hb HC HL HKw6;clear HB1;have HC:=Hj (found_yes (some ⟨w2.heap.size,0,none⟩) none (some ⟨w7.heap.size,0,none⟩) none 2 2 0 0 2 0 _ _ _ _ _ _ _ _ _ (w7.alloc (.cells #[.int .i64 0,.int .i64 0] 2)) (HO1.out.below ((Kp.refl w7).alloc (.cells #[.int .i64 0,.int .i64 0] 2))) ⟨rfl,fun h=>absurd rfl h⟩ (IsAt.lit (Blk.new w7 2 #[.int .i64 0,.int .i64 0]) rfl rfl) ⟨rfl,fun h=>absurd rfl h⟩ ex25_1_ck ex25_1)
 go_wp2_with fail
 refine HC.out.mono ?_;rintro e w8 ⟨rfl,hb⟩;have HL:=Hj (show Below w7.heap.size w7 w8 from Below.trans ((Kp.refl w7).alloc (.cells #[.int .i64 0,.int .i64 0] 2)) (hb.mono (Below.size ((Kp.refl w7).alloc (.cells #[.int .i64 0,.int .i64 0] 2)))));have HKw8:=Hj (HKw7.out.trans (HL.out.mono HKw7.out.size));have HO1:=Hj (HO1.out.below HL.out);clear hb HC HL HKw7;clear HO1;have hcv:=curve25_any (some ⟨w8.heap.size,0,none⟩) 1 2 [2,-5] _ (IsAt.lit (Blk.new w8 2 #[.int .i64 2,.int .i64 (-5)]) rfl rfl) (by omega) (fits_lit (by simp));rw [show prs [2,-5] 1=[(2,-5)] from rfl] at hcv;have HC:=Hj (hcv)
 go_wp2_with fail
 refine HC.out.mono ?_;rintro e w9 ⟨A5,c5,rfl,hS,hb⟩;have HL:=Hj (show Below w8.heap.size w8 w9 from Below.trans ((Kp.refl w8).alloc (.cells #[.int .i64 2,.int .i64 (-5)] 2)) (hb.mono (Below.size ((Kp.refl w8).alloc (.cells #[.int .i64 2,.int .i64 (-5)] 2)))));have HKw9:=Hj (HKw8.out.trans (HL.out.mono HKw8.out.size));have HS5:=Hj hS;clear hS hcv;clear hb HC HL HKw8;have kx:=((Kp.refl w9).alloc (.cells #[.slice A5 1 c5] 29));have hcs:=CsAt.one (Blk.new w9 29 #[.slice A5 1 c5]) (HS5.out.below kx);have HC:=Hj (some25 (some ⟨w9.heap.size,0,none⟩) 1 1 (w9.alloc (.cells #[.slice A5 1 c5] 29)))
 go_wp2_with fail
 refine HC.out.mono ?_;rintro e w10 ⟨rfl,hb⟩;have HL:=Hj (show Below w9.heap.size w9 w10 from Below.trans ((Kp.refl w9).alloc (.cells #[.slice A5 1 c5] 29)) (hb.mono (Below.size ((Kp.refl w9).alloc (.cells #[.slice A5 1 c5] 29)))));have HKw10:=Hj (HKw9.out.trans (HL.out.mono HKw9.out.size));have HO2:=Hj (hcs.below hb);clear hcs kx;have HS5:=Hj (HS5.out.below HL.out);clear hb HC HL HKw9;clear HS5;have HC:=Hj (found_yes (some ⟨w9.heap.size,0,none⟩) none (some ⟨w10.heap.size,0,none⟩) none 1 1 0 0 1 0 _ _ _ _ _ _ _ _ _ (w10.alloc (.cells #[.int .i64 0] 2)) (HO2.out.below ((Kp.refl w10).alloc (.cells #[.int .i64 0] 2))) ⟨rfl,fun h=>absurd rfl h⟩ (IsAt.lit (Blk.new w10 2 #[.int .i64 0]) rfl rfl) ⟨rfl,fun h=>absurd rfl h⟩ ex25_2_ck ex25_2)
 go_wp2_with fail
 refine HC.out.mono ?_;rintro e w11 ⟨rfl,hb⟩;have HL:=Hj (show Below w10.heap.size w10 w11 from Below.trans ((Kp.refl w10).alloc (.cells #[.int .i64 0] 2)) (hb.mono (Below.size ((Kp.refl w10).alloc (.cells #[.int .i64 0] 2)))));have HKw11:=Hj (HKw10.out.trans (HL.out.mono HKw10.out.size));have HO2:=Hj (HO2.out.below HL.out);clear hb HC HL HKw10;clear HO2;have hcv:=curve25_any (some ⟨w11.heap.size,0,none⟩) 1 2 [2,3] _ (IsAt.lit (Blk.new w11 2 #[.int .i64 2,.int .i64 3]) rfl rfl) (by omega) (fits_lit (by simp));rw [show prs [2,3] 1=[(2,3)] from rfl] at hcv;have HC:=Hj (hcv)
 go_wp2_with fail
 refine HC.out.mono ?_;rintro e w12 ⟨A6,c6,rfl,hS,hb⟩;have HL:=Hj (show Below w11.heap.size w11 w12 from Below.trans ((Kp.refl w11).alloc (.cells #[.int .i64 2,.int .i64 3] 2)) (hb.mono (Below.size ((Kp.refl w11).alloc (.cells #[.int .i64 2,.int .i64 3] 2)))));have HKw12:=Hj (HKw11.out.trans (HL.out.mono HKw11.out.size));have HS6:=Hj hS;clear hS hcv;clear hb HC HL HKw11;have kx:=((Kp.refl w12).alloc (.cells #[.slice A6 1 c6] 29));have hcs:=CsAt.one (Blk.new w12 29 #[.slice A6 1 c6]) (HS6.out.below kx);have HC:=Hj (some25 (some ⟨w12.heap.size,0,none⟩) 1 1 (w12.alloc (.cells #[.slice A6 1 c6] 29)))
 go_wp2_with fail
 refine HC.out.mono ?_;rintro e w13 ⟨rfl,hb⟩;have HL:=Hj (show Below w12.heap.size w12 w13 from Below.trans ((Kp.refl w12).alloc (.cells #[.slice A6 1 c6] 29)) (hb.mono (Below.size ((Kp.refl w12).alloc (.cells #[.slice A6 1 c6] 29)))));have HKw13:=Hj (HKw12.out.trans (HL.out.mono HKw12.out.size));have HO3:=Hj (hcs.below hb);clear hcs kx;have HS6:=Hj (HS6.out.below HL.out);clear hb HC HL HKw12;clear HS6;have hcv:=curve25_any (some ⟨w13.heap.size,0,none⟩) 1 2 [5,8] _ (IsAt.lit (Blk.new w13 2 #[.int .i64 5,.int .i64 8]) rfl rfl) (by omega) (fits_lit (by simp));rw [show prs [5,8] 1=[(5,8)] from rfl] at hcv;have HC:=Hj (hcv)
 go_wp2_with fail
 refine HC.out.mono ?_;rintro e w14 ⟨A7,c7,rfl,hS,hb⟩;have HL:=Hj (show Below w13.heap.size w13 w14 from Below.trans ((Kp.refl w13).alloc (.cells #[.int .i64 5,.int .i64 8] 2)) (hb.mono (Below.size ((Kp.refl w13).alloc (.cells #[.int .i64 5,.int .i64 8] 2)))));have HKw14:=Hj (HKw13.out.trans (HL.out.mono HKw13.out.size));have HS7:=Hj hS;clear hS hcv;have HO3:=Hj (HO3.out.below HL.out);clear hb HC HL HKw13;have kx:=((Kp.refl w14).alloc (.cells #[.slice A7 1 c7] 29));have hcs:=CsAt.one (Blk.new w14 29 #[.slice A7 1 c7]) (HS7.out.below kx);have HC:=Hj (some25 (some ⟨w14.heap.size,0,none⟩) 1 1 (w14.alloc (.cells #[.slice A7 1 c7] 29)))
 go_wp2_with fail
 refine HC.out.mono ?_;rintro e w15 ⟨rfl,hb⟩;have HL:=Hj (show Below w14.heap.size w14 w15 from Below.trans ((Kp.refl w14).alloc (.cells #[.slice A7 1 c7] 29)) (hb.mono (Below.size ((Kp.refl w14).alloc (.cells #[.slice A7 1 c7] 29)))));have HKw15:=Hj (HKw14.out.trans (HL.out.mono HKw14.out.size));have HB3:=Hj (hcs.below hb);clear hcs kx;have HO3:=Hj (HO3.out.below HL.out);have HS7:=Hj (HS7.out.below HL.out);clear hb HC HL HKw14;clear HS7;have HC:=Hj (found_yes (some ⟨w12.heap.size,0,none⟩) (some ⟨w14.heap.size,0,none⟩) (some ⟨w15.heap.size,0,none⟩) (some ⟨w15.heap.size+1,0,none⟩) 1 1 1 1 1 1 _ _ _ _ _ _ _ _ _ ((w15.alloc (.cells #[.int .i64 2] 2)).alloc (.cells #[.int .i64 2] 2)) (HO3.out.below (((Kp.refl w15).alloc (.cells #[.int .i64 2] 2)).alloc (.cells #[.int .i64 2] 2))) (HB3.out.below (((Kp.refl w15).alloc (.cells #[.int .i64 2] 2)).alloc (.cells #[.int .i64 2] 2))) (IsAt.lit ((Blk.new w15 2 #[.int .i64 2]).alloc (.cells #[.int .i64 2] 2)) rfl rfl) (IsAt.lit (Blk.new1 w15 (.cells #[.int .i64 2] 2) 2 #[.int .i64 2]) rfl rfl) ex25_3_ck ex25_3)
 go_wp2_with fail
 refine HC.out.mono ?_;rintro e w16 ⟨rfl,hb⟩;have HL:=Hj (show Below w15.heap.size w15 w16 from Below.trans (((Kp.refl w15).alloc (.cells #[.int .i64 2] 2)).alloc (.cells #[.int .i64 2] 2)) (hb.mono (Below.size (((Kp.refl w15).alloc (.cells #[.int .i64 2] 2)).alloc (.cells #[.int .i64 2] 2)))));have HKw16:=Hj (HKw15.out.trans (HL.out.mono HKw15.out.size));have HO3:=Hj (HO3.out.below HL.out);have HB3:=Hj (HB3.out.below HL.out);clear hb HC HL HKw15;clear HO3;clear HB3;have hcv:=curve25_any (some ⟨w16.heap.size,0,none⟩) 1 2 [5,3] _ (IsAt.lit (Blk.new w16 2 #[.int .i64 5,.int .i64 3]) rfl rfl) (by omega) (fits_lit (by simp));rw [show prs [5,3] 1=[(5,3)] from rfl] at hcv;have HC:=Hj (hcv)
 go_wp2_with fail
 refine HC.out.mono ?_;rintro e w17 ⟨A8,c8,rfl,hS,hb⟩;have HL:=Hj (show Below w16.heap.size w16 w17 from Below.trans ((Kp.refl w16).alloc (.cells #[.int .i64 5,.int .i64 3] 2)) (hb.mono (Below.size ((Kp.refl w16).alloc (.cells #[.int .i64 5,.int .i64 3] 2)))));have HKw17:=Hj (HKw16.out.trans (HL.out.mono HKw16.out.size));have HS8:=Hj hS;clear hS hcv;clear hb HC HL HKw16;have kx:=((Kp.refl w17).alloc (.cells #[.slice A8 1 c8] 29));have hcs:=CsAt.one (Blk.new w17 29 #[.slice A8 1 c8]) (HS8.out.below kx);have HC:=Hj (some25 (some ⟨w17.heap.size,0,none⟩) 1 1 (w17.alloc (.cells #[.slice A8 1 c8] 29)))
 go_wp2_with fail
 refine HC.out.mono ?_;rintro e w18 ⟨rfl,hb⟩;have HL:=Hj (show Below w17.heap.size w17 w18 from Below.trans ((Kp.refl w17).alloc (.cells #[.slice A8 1 c8] 29)) (hb.mono (Below.size ((Kp.refl w17).alloc (.cells #[.slice A8 1 c8] 29)))));have HKw18:=Hj (HKw17.out.trans (HL.out.mono HKw17.out.size));have HO4:=Hj (hcs.below hb);clear hcs kx;have HS8:=Hj (HS8.out.below HL.out);clear hb HC HL HKw17;clear HS8;have hcv:=curve25_any (some ⟨w18.heap.size,0,none⟩) 1 2 [2,8] _ (IsAt.lit (Blk.new w18 2 #[.int .i64 2,.int .i64 8]) rfl rfl) (by omega) (fits_lit (by simp));rw [show prs [2,8] 1=[(2,8)] from rfl] at hcv;have HC:=Hj (hcv)
 go_wp2_with fail
 refine HC.out.mono ?_;rintro e w19 ⟨A9,c9,rfl,hS,hb⟩;have HL:=Hj (show Below w18.heap.size w18 w19 from Below.trans ((Kp.refl w18).alloc (.cells #[.int .i64 2,.int .i64 8] 2)) (hb.mono (Below.size ((Kp.refl w18).alloc (.cells #[.int .i64 2,.int .i64 8] 2)))));have HKw19:=Hj (HKw18.out.trans (HL.out.mono HKw18.out.size));have HS9:=Hj hS;clear hS hcv;have HO4:=Hj (HO4.out.below HL.out);clear hb HC HL HKw18;have kx:=((Kp.refl w19).alloc (.cells #[.slice A9 1 c9] 29));have hcs:=CsAt.one (Blk.new w19 29 #[.slice A9 1 c9]) (HS9.out.below kx);have HC:=Hj (some25 (some ⟨w19.heap.size,0,none⟩) 1 1 (w19.alloc (.cells #[.slice A9 1 c9] 29)))
 go_wp2_with fail
 refine HC.out.mono ?_;rintro e w20 ⟨rfl,hb⟩;have HL:=Hj (show Below w19.heap.size w19 w20 from Below.trans ((Kp.refl w19).alloc (.cells #[.slice A9 1 c9] 29)) (hb.mono (Below.size ((Kp.refl w19).alloc (.cells #[.slice A9 1 c9] 29)))));have HKw20:=Hj (HKw19.out.trans (HL.out.mono HKw19.out.size));have HB4:=Hj (hcs.below hb);clear hcs kx;have HO4:=Hj (HO4.out.below HL.out);have HS9:=Hj (HS9.out.below HL.out);clear hb HC HL HKw19;clear HS9;have HC:=Hj (found_yes (some ⟨w17.heap.size,0,none⟩) (some ⟨w19.heap.size,0,none⟩) (some ⟨w20.heap.size,0,none⟩) (some ⟨w20.heap.size+1,0,none⟩) 1 1 1 1 1 1 _ _ _ _ _ _ _ _ _ ((w20.alloc (.cells #[.int .i64 2] 2)).alloc (.cells #[.int .i64 2] 2)) (HO4.out.below (((Kp.refl w20).alloc (.cells #[.int .i64 2] 2)).alloc (.cells #[.int .i64 2] 2))) (HB4.out.below (((Kp.refl w20).alloc (.cells #[.int .i64 2] 2)).alloc (.cells #[.int .i64 2] 2))) (IsAt.lit ((Blk.new w20 2 #[.int .i64 2]).alloc (.cells #[.int .i64 2] 2)) rfl rfl) (IsAt.lit (Blk.new1 w20 (.cells #[.int .i64 2] 2) 2 #[.int .i64 2]) rfl rfl) ex25_4_ck ex25_4)
 go_wp2_with fail
 refine HC.out.mono ?_;rintro e w21 ⟨rfl,hb⟩;have HL:=Hj (show Below w20.heap.size w20 w21 from Below.trans (((Kp.refl w20).alloc (.cells #[.int .i64 2] 2)).alloc (.cells #[.int .i64 2] 2)) (hb.mono (Below.size (((Kp.refl w20).alloc (.cells #[.int .i64 2] 2)).alloc (.cells #[.int .i64 2] 2)))));have HKw21:=Hj (HKw20.out.trans (HL.out.mono HKw20.out.size));have HO4:=Hj (HO4.out.below HL.out);have HB4:=Hj (HB4.out.below HL.out);clear hb HC HL HKw20;clear HO4;clear HB4;have hcv:=curve25_any (some ⟨w21.heap.size,0,none⟩) 1 2 [5,-4] _ (IsAt.lit (Blk.new w21 2 #[.int .i64 5,.int .i64 (-4)]) rfl rfl) (by omega) (fits_lit (by simp));rw [show prs [5,-4] 1=[(5,-4)] from rfl] at hcv;have HC:=Hj (hcv)
 go_wp2_with fail
 refine HC.out.mono ?_;rintro e w22 ⟨A10,c10,rfl,hS,hb⟩;have HL:=Hj (show Below w21.heap.size w21 w22 from Below.trans ((Kp.refl w21).alloc (.cells #[.int .i64 5,.int .i64 (-4)] 2)) (hb.mono (Below.size ((Kp.refl w21).alloc (.cells #[.int .i64 5,.int .i64 (-4)] 2)))));have HKw22:=Hj (HKw21.out.trans (HL.out.mono HKw21.out.size));have HS10:=Hj hS;clear hS hcv;clear hb HC HL HKw21;have kx:=((Kp.refl w22).alloc (.cells #[.slice A10 1 c10] 29));have hcs:=CsAt.one (Blk.new w22 29 #[.slice A10 1 c10]) (HS10.out.below kx);have HC:=Hj (some25 (some ⟨w22.heap.size,0,none⟩) 1 1 (w22.alloc (.cells #[.slice A10 1 c10] 29)))
 go_wp2_with fail
 refine HC.out.mono ?_;rintro e w23 ⟨rfl,hb⟩;have HL:=Hj (show Below w22.heap.size w22 w23 from Below.trans ((Kp.refl w22).alloc (.cells #[.slice A10 1 c10] 29)) (hb.mono (Below.size ((Kp.refl w22).alloc (.cells #[.slice A10 1 c10] 29)))));have HKw23:=Hj (HKw22.out.trans (HL.out.mono HKw22.out.size));have HO5:=Hj (hcs.below hb);clear hcs kx;have HS10:=Hj (HS10.out.below HL.out);clear hb HC HL HKw22;clear HS10;have hcv:=curve25_any (some ⟨w23.heap.size,0,none⟩) 1 2 [5,6] _ (IsAt.lit (Blk.new w23 2 #[.int .i64 5,.int .i64 6]) rfl rfl) (by omega) (fits_lit (by simp));rw [show prs [5,6] 1=[(5,6)] from rfl] at hcv;have HC:=Hj (hcv)
 go_wp2_with fail
 refine HC.out.mono ?_;rintro e w24 ⟨A11,c11,rfl,hS,hb⟩;have HL:=Hj (show Below w23.heap.size w23 w24 from Below.trans ((Kp.refl w23).alloc (.cells #[.int .i64 5,.int .i64 6] 2)) (hb.mono (Below.size ((Kp.refl w23).alloc (.cells #[.int .i64 5,.int .i64 6] 2)))));have HKw24:=Hj (HKw23.out.trans (HL.out.mono HKw23.out.size));have HS11:=Hj hS;clear hS hcv;have HO5:=Hj (HO5.out.below HL.out);clear hb HC HL HKw23;have kx:=((Kp.refl w24).alloc (.cells #[.slice A11 1 c11] 29));have hcs:=CsAt.one (Blk.new w24 29 #[.slice A11 1 c11]) (HS11.out.below kx);have HC:=Hj (some25 (some ⟨w24.heap.size,0,none⟩) 1 1 (w24.alloc (.cells #[.slice A11 1 c11] 29)))
 go_wp2_with fail
 refine HC.out.mono ?_;rintro e w25 ⟨rfl,hb⟩;have HL:=Hj (show Below w24.heap.size w24 w25 from Below.trans ((Kp.refl w24).alloc (.cells #[.slice A11 1 c11] 29)) (hb.mono (Below.size ((Kp.refl w24).alloc (.cells #[.slice A11 1 c11] 29)))));have HKw25:=Hj (HKw24.out.trans (HL.out.mono HKw24.out.size));have HB5:=Hj (hcs.below hb);clear hcs kx;have HO5:=Hj (HO5.out.below HL.out);have HS11:=Hj (HS11.out.below HL.out);clear hb HC HL HKw24;clear HS11;have HC:=Hj (found_yes (some ⟨w22.heap.size,0,none⟩) (some ⟨w24.heap.size,0,none⟩) (some ⟨w25.heap.size,0,none⟩) (some ⟨w25.heap.size+1,0,none⟩) 1 1 1 1 1 1 _ _ _ _ _ _ _ _ _ ((w25.alloc (.cells #[.int .i64 5] 2)).alloc (.cells #[.int .i64 5] 2)) (HO5.out.below (((Kp.refl w25).alloc (.cells #[.int .i64 5] 2)).alloc (.cells #[.int .i64 5] 2))) (HB5.out.below (((Kp.refl w25).alloc (.cells #[.int .i64 5] 2)).alloc (.cells #[.int .i64 5] 2))) (IsAt.lit ((Blk.new w25 2 #[.int .i64 5]).alloc (.cells #[.int .i64 5] 2)) rfl rfl) (IsAt.lit (Blk.new1 w25 (.cells #[.int .i64 5] 2) 2 #[.int .i64 5]) rfl rfl) ex25_5_ck ex25_5)
 go_wp2_with fail
 refine HC.out.mono ?_;rintro e w26 ⟨rfl,hb⟩;have HL:=Hj (show Below w25.heap.size w25 w26 from Below.trans (((Kp.refl w25).alloc (.cells #[.int .i64 5] 2)).alloc (.cells #[.int .i64 5] 2)) (hb.mono (Below.size (((Kp.refl w25).alloc (.cells #[.int .i64 5] 2)).alloc (.cells #[.int .i64 5] 2)))));have HKw26:=Hj (HKw25.out.trans (HL.out.mono HKw25.out.size));have HO5:=Hj (HO5.out.below HL.out);have HB5:=Hj (HB5.out.below HL.out);clear hb HC HL HKw25;clear HO5;clear HB5;go_wp2;go_ret;exact ⟨rfl,HKw26.out⟩
theorem long25_any (A B:Option Addr) (n c m d:Nat) (os bs:List (List (Int×Int))) (w:World) (h:CsAt w A n os) (h':CsAt w B m bs) :
  Calls Tryz.prog 45 #[.slice A n c,.slice B m d] w fun e w'=>e=.returned (.bool (longC os || longC bs))∧Below w.heap.size w w':=by
 have H1:=Hj (long24_any A n c os w h);have H2:=Hj (fun W (hW:Below w.heap.size w W)=>long24_any B m d bs W (h'.below hW));clear h h';generalize longC os=x at *;generalize longC bs=y at *;go_enter Tryz.func45,Tryz.ntmps45
 go_wp2_with fail
 refine H1.out.mono ?_;rintro e w1 ⟨rfl,hb1⟩;have HB1:=Hj hb1;clear hb1;cases x
 ·go_wp2_with fail
  refine (H2.out w1 HB1.out).mono ?_;rintro e w2 ⟨rfl,hb2⟩;have HB2:=Hj (HB1.out.trans (hb2.mono HB1.out.size));clear hb2;go_wp2;go_ret;exact ⟨rfl,HB2.out⟩
 ·go_wp2;go_ret;exact ⟨rfl,HB1.out⟩
section
variable {os bs:List (List (Int×Int))}
theorem money_whole (ls:List (List (Int×Int))) (xs:List Int):∀ k,moneyA ls (castR xs) k=((costs ls xs k:Int):Rat)
 | 0=>rfl
 | k+1=>by rw [moneyA_succ,money_whole ls xs k,castR_get,costAt_whole,costs,Rat.intCast_add]
theorem qty_whole (xs:List Int) (k:Nat):qtyA (castR xs) k=sumF (fun i=>((xs[i]?.getD 0:Int):Rat)) k:=by
 unfold qtyA;exact sumF_eq fun i _=>castR_get xs i
end
def owL (lo up:Nat→Int) (n:Nat) (more:Int):List Int:=(List.range n).map (owX lo up n more)
def owP (lo up:Nat→Int) (n:Nat) (more:Int) (k:Nat):List Int:=(List.range n).map fun i=>if n-k≤i then owX lo up n more i else 0
section
variable {lo up:Nat→Int} {n:Nat} {more:Int}
theorem owP_zero:owP lo up n more 0=List.replicate n 0:=by
 unfold owP;apply List.ext_getElem?;intro i;by_cases hi:i<n
 ·simp [hi];omega
 ·simp [hi]
theorem owP_all:owP lo up n more n=owL lo up n more:=by
 unfold owP owL;exact List.map_congr_left fun i _=>if_pos (by omega)
theorem owP_step {k c:Nat} (hk:k<n) (hc:n-1-k=c):owP lo up n more (k+1)=(owP lo up n more k).set c (owX lo up n more c):=by
 unfold owP;apply List.ext_getElem?;intro i;rw [List.getElem?_set];by_cases hi:i<n
 ·by_cases e:c=i
  ·subst e;simp [hi];omega
  ·simp [hi,e];by_cases h1:n≤i+k
   ·rw [if_pos h1,if_pos (by omega)]
   ·rw [if_neg h1,if_neg (by omega)]
 ·simp [hi];omega
theorem owP_len (k:Nat):(owP lo up n more k).length=n:=by simp [owP]
end
theorem rsupplyAt_no (A:Option Addr) (n c:Nat) (l:List (Int×Int)) (an an':Bool) (aA aA':Option Addr) (ak ac ak' ac':Nat) (w:World) (h:StAt w A n l) (hk:chk true l≠0) :
  Calls Tryz.prog 146 #[.slice A n c,.agg #[.bool an,.slice aA ak ac,.bool an',.slice aA' ak' ac']] w fun e w'=>e=.returned (.tuple #[.int .i64 0,.int .i64 0,.int .i64 (chk true l)])∧Below w.heap.size w w':=by
 have CC:=Hj (fun W (hW:Below w.heap.size w W)=>rcheck_up A n c l W (h.below hW));generalize chk true l=x at *;have dx:(x != 0)=true:=by simpa using hk
 clear h hk;go_enter Tryz.func146,Tryz.ntmps146
 go_wp2_with fail
 have hBW:Below w.heap.size w (w.alloc (.cells #[.bool an,.slice aA ak ac,.bool an',.slice aA' ak' ac'] 42)):=(Below.refl _ _).alloc (Nat.le_refl _) _;generalize w.alloc (.cells #[.bool an,.slice aA ak ac,.bool an',.slice aA' ak' ac'] 42)=W at *;refine (CC.out W hBW).mono ?_;rintro e w1 ⟨rfl,hb1⟩;have HF:=Hj (hBW.trans (hb1.mono hBW.size));clear hb1 hBW CC;go_wp2;go_ret3;exact ⟨rfl,HF.out⟩
theorem rsupplyAt_some (A:Option Addr) (n c:Nat) (l:List (Int×Int)) (an an':Bool) (aA aA':Option Addr) (ak ac ak' ac':Nat) (q:Rat) (w:World) (h:StAt w A n l) (hq:QS 7 w an aA ak ac an' aA' ak' ac' q) :
  Calls Tryz.prog 146 #[.slice A n c,.agg #[.bool an,.slice aA ak ac,.bool an',.slice aA' ak' ac']] w fun e w'=>∃ a b x:Int,e=.returned (.tuple #[.int .i64 a,.int .i64 b,.int .i64 x])∧Below w.heap.size w w':=by
 by_cases hk:chk true l=0
 ·refine (rsupplyAt_any A n c l an an' aA aA' ak ac ak' ac' q w h hq hk).mono ?_;rintro e w' ⟨rfl,hb⟩;exact ⟨_,_,_,rfl,hb⟩
 ·refine (rsupplyAt_no A n c l an an' aA aA' ak ac ak' ac' w h hk).mono ?_;rintro e w' ⟨rfl,hb⟩;exact ⟨_,_,_,rfl,hb⟩
theorem rrow_any (A:Option Addr) (n c:Nat) (xs:List Int) (w:World) (h:IsAt w A n xs) (hn:n≤1000) (hx:∀ i,i<n→Fits (xs[i]?.getD 0)) :
  Calls Tryz.prog 102 #[.slice A n c] w fun e w'=>∃ B d,e=.returned (.slice B n d)∧QsAt w' B n (castR xs)∧Below w.heap.size w w':=by
 have HX:=Hj h;have HF:=Hj hx;have HL:=Hj (show (castR xs).length=n by rw [castR,List.length_map];exact h.1);obtain ⟨ii,hii,hz0,hz1,hz2⟩:=info_parts info_q;have HI:=Hj hii;have HZ0:=Hj hz0;have HZ1:=Hj hz1;have HZ2:=Hj hz2;clear hii hz0 hz1 hz2 h hx;go_enter Tryz.func102,Tryz.ntmps102
 go_wp2_with fail
 go_loopw [3,4] (fun th t wr=>∃ (i:Nat) (Ah:Option Addr) (ch:Nat) (es:List QEnt),i≤n∧th=.slice Ah i ch∧t=.int .i64 (i:Int)∧Hid (Below w.heap.size w wr∧Own w.heap.size 42 4 wr Ah i ch (qCells es)∧QEnts Ah (castR xs) wr i es)) (fun _ t _=>n-(intOf t).toNat)
 case atStart=>exact ⟨0,none,0,[],Nat.zero_le _,rfl,rfl,Hj ⟨Below.refl _ _,Own.nil _ _ _ _,QEnts.start⟩⟩
 case round =>
  obtain ⟨i,Ah,ch,es,hi,rfl,rfl,HR⟩:=hrel;by_cases hlt:i<n
  ·obtain ⟨b,o,rfl,hb,hc⟩:=(HX.out.below HR.out.1).2 (by omega);have y0:=hc i hlt;have hfit:=HF.out i hlt;have hci:=castR_get xs i;generalize xs[i]?.getD 0=x at *;have TI:=Hj (fun W=>rint_any x W hfit.1 hfit.2);generalize hyq:((x:Int):Rat)=yq at *;have HCI:=Hj hci;have i1:(0:Int)≤(i:Int):=by omega
   have i2:(i:Int)<(n:Int):=by omega
   clear hc hfit hci hyq
   go_wp2_with fail
   refine (TI.out wr).mono ?_;rintro e v1 ⟨A1,k1,c1,A2,k2,c2,rfl,hk1,hk2,hW1,hW2,hF1,hF2,hb1⟩;have hO1:=(HR.out.2.1.keep hb1).keep ((Kp.refl v1).alloc (.cells #[.bool (decide (yq.num<0)),.slice A1 k1 c1,.bool false,.slice A2 k2 c2] 42));have m1:=Blk.new v1 42 #[.bool (decide (yq.num<0)),.slice A1 k1 c1,.bool false,.slice A2 k2 c2];have s1:Kp wr (v1.alloc (.cells #[.bool (decide (yq.num<0)),.slice A1 k1 c1,.bool false,.slice A2 k2 c2] 42)):=Kp.alloc hb1 _;have hs0:w.heap.size≤(v1.alloc (.cells #[.bool (decide (yq.num<0)),.slice A1 k1 c1,.bool false,.slice A2 k2 c2] 42)).heap.size:=Nat.le_trans HR.out.1.size (Below.size s1);have hlt2:=HR.out.2.1.blk_lt;have he1:=(HR.out.2.2.below hb1).snoc (s:=decide (yq.num<0)) (by rw [HCI.out]) (by rw [HCI.out];exact (show WQ v1 yq A1 k1 c1 A2 k2 c2 from ⟨hk1,hk2,hW1,hW2⟩)) (Off.fresh hF1 (fun b hb=>hlt2 b hb)) (Off.fresh hF2 (fun b hb=>hlt2 b hb));have HE1:=Hj (he1.below ((Kp.refl v1).alloc (.cells #[.bool (decide (yq.num<0)),.slice A1 k1 c1,.bool false,.slice A2 k2 c2] 42)));have HB1:=Hj (HR.out.1.trans (Below.mono s1 HR.out.1.size));clear hk1 hk2 hW1 hW2 hF1 hF2 hb1 he1 hlt2 s1 y0
   go_wp2_with (first
    | (at_builtin;refine wpList_append_at rfl (base:=w.heap.size) (e:=42) (size:=4) (bytes:=64) (.tmp 11) (.tmp 17) 46 rfl Tryz.underlying46 HI.out HZ0.out HZ1.out HZ2.out rfl (by decide) (xs:=qCells es) (news:=[.bool (decide (yq.num<0)),.slice A1 k1 c1,.bool false,.slice A2 k2 c2]) rfl (by exact hO1) rfl (by exact Blk.src m1 rfl (qCells_one [(decide (yq.num<0),(A1,k1,c1),(A2,k2,c2))])) (by simp only [maxLen];omega) (by omega) (by exact hs0) ?_
       intro B2 cb2 w2' hO2 hb2 hk2 hs2;have HP:=Hj (And.intro hO2 (And.intro hb2 (And.intro hk2 hs2)));clear hO2 hb2 hk2 hs2))
   have hfin:Below w.heap.size w w2'∧Own w.heap.size 42 4 w2' B2 (i+1) cb2 (qCells (es ++ [(decide (yq.num<0),(A1,k1,c1),(A2,k2,c2))]))∧QEnts B2 (castR xs) w2' (i+1) (es ++ [(decide (yq.num<0),(A1,k1,c1),(A2,k2,c2))]):=by
    obtain ⟨hO2,hb2,hk2,hs2⟩:=HP.out;exact ⟨HB1.out.trans hb2,by rw [qCells_append];exact hO2,HE1.out.app hk2 hs2⟩
   have HFN:=Hj hfin;clear hfin HP hO1 m1 HE1 HB1;go_wp2;go_roundw
   case rel=>exact ⟨i+1,B2,cb2,_,by omega,rfl,by first|rfl|go_num,HFN.out⟩
   case measure=>simp [intOf];omega
  ·obtain rfl:i=n:=by omega
   have HFN:=Hj (And.intro (HR.out.2.1.qs (ps:=castR xs) HL.out HR.out.2.2) HR.out.1);clear HR;go_wp2;go_ret;exact ⟨Ah,ch,rfl,HFN.out.1,HFN.out.2⟩
theorem val_drop_le (l:List Nat) (i:Nat) (hi:i≤l.length):val (l.drop i)≤val l:=by
 rw [val_take_drop l i hi];have:1≤4294967296 ^ i:=Nat.pow_pos (by decide);have:=Nat.mul_le_mul this (Nat.le_refl (val (l.drop i)));omega
theorem small_step {v d v1 m:Nat} (h:v1=d+4294967296*v) (hle:v1≤m) (hm:m<1000000000000000) :
  IntKind.i64.wrap ((v:Int)*4294967296)=(v:Int)*4294967296∧IntKind.i64.wrap ((v:Int)*4294967296+(d:Int))=(v1:Int):=by
 have e:(v:Int)*4294967296+(d:Int)=(v1:Int):=by omega
 rw [e];generalize hx:(v:Int)*4294967296=x at *;exact ⟨IntWalk.i64_in _ (by omega),IntWalk.i64_in _ (by omega)⟩
theorem wrap_nat (d:Nat) (h:d<4294967296):IntKind.i64.wrap ((d:Nat):Int)=(d:Int):=IntWalk.i64_in _ (by omega)
theorem wrap_dec {c k:Nat} (h:c<k) (hk:k≤1000000):IntKind.i64.wrap ((c:Int)-1)=(c:Int)-1:=IntWalk.i64_in _ (by omega)
theorem dec_step {k j c:Nat} (h:k-1-j=c) (hj:j<k):(c:Int)-1=(k:Int)-1-((j+1:Nat):Int):=by omega
theorem rsmall_any (wf:Int) (A:Option Addr) (k c:Nat) (A':Option Addr) (k' c':Nat) (w:World) (h:RQ w ((wf:Int):Rat) A k c A' k' c') (hb:wf.natAbs<1000000000000000) :
  Calls Tryz.prog 103 #[.agg #[.bool (decide (((wf:Int):Rat).num<0)),.slice A k c,.bool false,.slice A' k' c']] w fun e w'=>e=.returned (.int .i64 wf)∧Below w.heap.size w w':=by
 have hw:=h.2.2.1;have hnum:((wf:Int):Rat).num=wf:=Rat.num_intCast _;rw [hnum] at hw ⊢;have hvd:=val_digs wf.natAbs;have hlen:=hw.1;have hWs:=hw.2.1;have hk:k≤1000000:=by
  have h2:(digs wf.natAbs).length≤2:=digs_len_le.2 (by omega);omega
 have HN:=Hj hb;have HW:=Hj hw;have HWS:=Hj hWs;have HL:=Hj hlen;have HV:=Hj hvd;generalize digs wf.natAbs=ds at *;clear h hw hWs hlen hvd hb hnum;go_enter Tryz.func103,Tryz.ntmps103
 go_wp2_with fail
 have hB0:=Blk.new w 42 #[.bool (decide (wf<0)),.slice A k c,.bool false,.slice A' k' c'];have hBW:Below w.heap.size w (w.alloc (.cells #[.bool (decide (wf<0)),.slice A k c,.bool false,.slice A' k' c'] 42)):=(Below.refl _ _).alloc (Nat.le_refl _) _;generalize w.alloc (.cells #[.bool (decide (wf<0)),.slice A k c,.bool false,.slice A' k' c'] 42)=W at *;obtain ⟨f0,f1,f2,f3,-,-,-,-⟩:=hB0.four;have HBW:=Hj hBW;clear hB0 hBW;have x0:IntKind.i64.wrap ((k:Int)-1)=(k:Int)-1:=IntWalk.i64_in _ (by omega)
 go_wp2_with fail
 go_loopw [3,4] (fun th t wr=>∃ (j:Nat) (ci:Int),j≤k∧th=.int .i64 ((val (ds.drop (k-j)):Nat):Int)∧t=.int .i64 ci∧Hid (ci=(k:Int)-1-(j:Int))∧wr=W) (fun _ t _=>(intOf t+1).toNat)
 case atStart=>exact ⟨0,(k:Int)-1,Nat.zero_le _,by rw [Nat.sub_zero,← HL.out,List.drop_length];rfl,rfl,by show (k:Int)-1=(k:Int)-1-((0:Nat):Int);omega,rfl⟩
 case round =>
  obtain ⟨j,ci,hj,rfl,rfl,hci,rfl⟩:=hrel;by_cases hjk:j<k
  ·obtain ⟨cN,rfl⟩:∃ cN:Nat,ci=(cN:Int):=⟨k-1-j,by have:=hci.out;omega⟩;have hcn:k-1-j=cN:=by have:=hci.out;omega
   have hcl:cN<k:=by omega
   obtain ⟨b,o,rfl,hb,hc⟩:=HW.out.2.2 (by omega);have y0:=(HBW.out.cell (p:=⟨b,o+cN,none⟩) hb).trans (hc cN hcl);have hd:=HWS.out _ (getD_mem (d:=0) (show cN<ds.length by rw [HL.out];exact hcl));have hs:=val_drop_succ ds cN;have hle:=val_drop_le ds cN (by rw [HL.out];omega);rw [HV.out] at hle;have hwb:=HN.out;have e1:k-j=cN+1:=by omega
   have e2:k-(j+1)=cN:=by omega
   rw [e1];generalize val (ds.drop (cN+1))=v at *;generalize ds[cN]?.getD 0=d at *;generalize hv1:val (ds.drop cN)=v1 at *;have hxx:=small_step hs hle hwb;have x3:=wrap_nat d hd;have x4:=wrap_dec hcl hk;have i1:(0:Int)≤(cN:Int):=Int.natCast_nonneg _;have i2:(cN:Int)<(k:Int):=by exact_mod_cast hcl
   have HV1:=Hj hv1;have HE2:=Hj e2;have HC2:=Hj (dec_step hcn hjk);obtain ⟨x1,x2⟩:=hxx;clear hc hb hs hle hd hwb e1 e2 hv1 hci;go_wp2;go_roundw
   case rel=>exact ⟨j+1,(cN:Int)-1,by omega,by rw [HE2.out,HV1.out],rfl,HC2.out,trivial⟩
   case measure=>simp [intOf]<;>omega
  ·obtain rfl:j=k:=by omega
   have hv0:val (ds.drop (j-j))=wf.natAbs:=by rw [Nat.sub_self,List.drop_zero];exact HV.out
   have hci2:=hci.out;obtain rfl:ci = -1:=by omega
   have hwb:=HN.out;rw [hv0];by_cases hneg:wf<0
   ·have hn1:decide (wf<0)=true:=by simpa using hneg
    rw [hn1] at f0;have x5:IntKind.i64.wrap (-((wf.natAbs:Nat):Int))=wf:=by rw [IntWalk.i64_in _ (by omega)];omega
    clear hci hci2 hv0 hwb hneg;go_wp2;go_ret;exact ⟨rfl,HBW.out⟩
   ·have hn1:decide (wf<0)=false:=by simpa using hneg
    rw [hn1] at f0;have x5:((wf.natAbs:Nat):Int)=wf:=by omega
    rw [x5];clear hci hci2 hv0 hwb hneg;go_wp2;go_ret;exact ⟨rfl,HBW.out⟩
end Go.Proofs.YtjajigkacccdgaaGreat
