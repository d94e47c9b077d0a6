/-
Lemmas of the walk; no further conditions.
-/
import Derived.Test.YtjajigkacccdgaaGreatTeBC
import Derived.Test.YtjajigkacccdgaaGreatRows
import Derived.WalkKit
import Derived.ProofKit
import Derived.OpenShut
import Derived.Carry
import Derived.WideKeyArgs
import Derived.Deep.Slices
set_option linter.unusedVariables false
set_option linter.unusedSimpArgs false
set_option maxRecDepth 100000
set_option maxHeartbeats 16000000
namespace Go.Proofs.YtjajigkacccdgaaGreat
open Go.RowKit
open Wd
theorem awake25_any (w:World):Calls Tryz.prog 46 #[] w fun e w'=>e=.returned (.bool true)∧Below w.heap.size w w':=by
 have HKw:=Hj (Below.refl w.heap.size w);go_enter Tryz.func46,Tryz.ntmps46;have hcv:=curve25_any (some ⟨w.heap.size,0,none⟩) 2 4 [5,1,4,3] _ (IsAt.lit (Blk.new w 2 #[.int .i64 5,.int .i64 1,.int .i64 4,.int .i64 3]) rfl rfl) (by omega) (fits_lit (by simp));rw [show prs [5,1,4,3] 2=[(5,1),(4,3)] from rfl] at hcv;have HC:=Hj (hcv)
 go_wp2_with fail
 refine HC.out.mono ?_;rintro e w1 ⟨A1,c1,rfl,hS,hb⟩;have HL:=Hj (show Below w.heap.size w w1 from Below.trans ((Kp.refl w).alloc (.cells #[.int .i64 5,.int .i64 1,.int .i64 4,.int .i64 3] 2)) (hb.mono (Below.size ((Kp.refl w).alloc (.cells #[.int .i64 5,.int .i64 1,.int .i64 4,.int .i64 3] 2)))));have HKw1:=Hj (HKw.out.trans (HL.out.mono HKw.out.size));have HS1:=Hj hS;clear hS hcv;clear hb HC HL HKw;have hcv:=curve25_any (some ⟨w1.heap.size,0,none⟩) 1 2 [3,2] _ (IsAt.lit (Blk.new w1 2 #[.int .i64 3,.int .i64 2]) rfl rfl) (by omega) (fits_lit (by simp));rw [show prs [3,2] 1=[(3,2)] from rfl] at hcv;have HC:=Hj (hcv)
 go_wp2_with fail
 refine HC.out.mono ?_;rintro e w2 ⟨A2,c2,rfl,hS,hb⟩;have HL:=Hj (show Below w1.heap.size w1 w2 from Below.trans ((Kp.refl w1).alloc (.cells #[.int .i64 3,.int .i64 2] 2)) (hb.mono (Below.size ((Kp.refl w1).alloc (.cells #[.int .i64 3,.int .i64 2] 2)))));have HKw2:=Hj (HKw1.out.trans (HL.out.mono HKw1.out.size));have HS2:=Hj hS;clear hS hcv;have HS1:=Hj (HS1.out.below HL.out);clear hb HC HL HKw1;have kx:=((Kp.refl w2).alloc (.cells #[.slice A1 2 c1,.slice A2 1 c2] 29));have hcs:=CsAt.two (Blk.new w2 29 #[.slice A1 2 c1,.slice A2 1 c2]) (HS1.out.below kx) (HS2.out.below kx);have HC:=Hj (some25 (some ⟨w2.heap.size,0,none⟩) 2 2 (w2.alloc (.cells #[.slice A1 2 c1,.slice A2 1 c2] 29)))
 go_wp2_with fail
 refine HC.out.mono ?_;rintro e w3 ⟨rfl,hb⟩;have HL:=Hj (show Below w2.heap.size w2 w3 from Below.trans ((Kp.refl w2).alloc (.cells #[.slice A1 2 c1,.slice A2 1 c2] 29)) (hb.mono (Below.size ((Kp.refl w2).alloc (.cells #[.slice A1 2 c1,.slice A2 1 c2] 29)))));have HKw3:=Hj (HKw2.out.trans (HL.out.mono HKw2.out.size));have HO1:=Hj (hcs.below hb);clear hcs kx;have HS1:=Hj (HS1.out.below HL.out);have HS2:=Hj (HS2.out.below HL.out);clear hb HC HL HKw2;clear HS1 HS2;have hcv:=curve25_any (some ⟨w3.heap.size,0,none⟩) 2 4 [4,9,4,2] _ (IsAt.lit (Blk.new w3 2 #[.int .i64 4,.int .i64 9,.int .i64 4,.int .i64 2]) rfl rfl) (by omega) (fits_lit (by simp));rw [show prs [4,9,4,2] 2=[(4,9),(4,2)] from rfl] at hcv;have HC:=Hj (hcv)
 go_wp2_with fail
 refine HC.out.mono ?_;rintro e w4 ⟨A3,c3,rfl,hS,hb⟩;have HL:=Hj (show Below w3.heap.size w3 w4 from Below.trans ((Kp.refl w3).alloc (.cells #[.int .i64 4,.int .i64 9,.int .i64 4,.int .i64 2] 2)) (hb.mono (Below.size ((Kp.refl w3).alloc (.cells #[.int .i64 4,.int .i64 9,.int .i64 4,.int .i64 2] 2)))));have HKw4:=Hj (HKw3.out.trans (HL.out.mono HKw3.out.size));have HS3:=Hj hS;clear hS hcv;have HO1:=Hj (HO1.out.below HL.out);clear hb HC HL HKw3;have hcv:=curve25_any (some ⟨w4.heap.size,0,none⟩) 1 2 [3,4] _ (IsAt.lit (Blk.new w4 2 #[.int .i64 3,.int .i64 4]) rfl rfl) (by omega) (fits_lit (by simp));rw [show prs [3,4] 1=[(3,4)] from rfl] at hcv;have HC:=Hj (hcv)
 go_wp2_with fail
 refine HC.out.mono ?_;rintro e w5 ⟨A4,c4,rfl,hS,hb⟩;have HL:=Hj (show Below w4.heap.size w4 w5 from Below.trans ((Kp.refl w4).alloc (.cells #[.int .i64 3,.int .i64 4] 2)) (hb.mono (Below.size ((Kp.refl w4).alloc (.cells #[.int .i64 3,.int .i64 4] 2)))));have HKw5:=Hj (HKw4.out.trans (HL.out.mono HKw4.out.size));have HS4:=Hj hS;clear hS hcv;have HO1:=Hj (HO1.out.below HL.out);have HS3:=Hj (HS3.out.below HL.out);clear hb HC HL HKw4;have kx:=((Kp.refl w5).alloc (.cells #[.slice A3 2 c3,.slice A4 1 c4] 29));have hcs:=CsAt.two (Blk.new w5 29 #[.slice A3 2 c3,.slice A4 1 c4]) (HS3.out.below kx) (HS4.out.below kx);have HC:=Hj (some25 (some ⟨w5.heap.size,0,none⟩) 2 2 (w5.alloc (.cells #[.slice A3 2 c3,.slice A4 1 c4] 29)))
 go_wp2_with fail
 refine HC.out.mono ?_;rintro e w6 ⟨rfl,hb⟩;have HL:=Hj (show Below w5.heap.size w5 w6 from Below.trans ((Kp.refl w5).alloc (.cells #[.slice A3 2 c3,.slice A4 1 c4] 29)) (hb.mono (Below.size ((Kp.refl w5).alloc (.cells #[.slice A3 2 c3,.slice A4 1 c4] 29)))));have HKw6:=Hj (HKw5.out.trans (HL.out.mono HKw5.out.size));have HB1:=Hj (hcs.below hb);clear hcs kx;have HO1:=Hj (HO1.out.below HL.out);have HS3:=Hj (HS3.out.below HL.out);have HS4:=Hj (HS4.out.below HL.out);clear hb HC HL HKw5;clear HS3 HS4;have HC:=Hj (found_yes (some ⟨w2.heap.size,0,none⟩) (some ⟨w5.heap.size,0,none⟩) (some ⟨w6.heap.size,0,none⟩) (some ⟨w6.heap.size+1,0,none⟩) 2 2 2 2 2 2 _ _ _ _ _ _ _ _ _ ((w6.alloc (.cells #[.int .i64 5,.int .i64 2] 2)).alloc (.cells #[.int .i64 4,.int .i64 3] 2)) (HO1.out.below (((Kp.refl w6).alloc (.cells #[.int .i64 5,.int .i64 2] 2)).alloc (.cells #[.int .i64 4,.int .i64 3] 2))) (HB1.out.below (((Kp.refl w6).alloc (.cells #[.int .i64 5,.int .i64 2] 2)).alloc (.cells #[.int .i64 4,.int .i64 3] 2))) (IsAt.lit ((Blk.new w6 2 #[.int .i64 5,.int .i64 2]).alloc (.cells #[.int .i64 4,.int .i64 3] 2)) rfl rfl) (IsAt.lit (Blk.new1 w6 (.cells #[.int .i64 5,.int .i64 2] 2) 2 #[.int .i64 4,.int .i64 3]) rfl rfl) ex25_0_ck ex25_0)
 go_wp2_with fail
 refine HC.out.mono ?_;rintro e w7 ⟨rfl,hb⟩;have HL:=Hj (show Below w6.heap.size w6 w7 from Below.trans (((Kp.refl w6).alloc (.cells #[.int .i64 5,.int .i64 2] 2)).alloc (.cells #[.int .i64 4,.int .i64 3] 2)) (hb.mono (Below.size (((Kp.refl w6).alloc (.cells #[.int .i64 5,.int .i64 2] 2)).alloc (.cells #[.int .i64 4,.int .i64 3] 2)))));have HKw7:=Hj (HKw6.out.trans (HL.out.mono HKw6.out.size));have HO1:=Hj (HO1.out.below HL.out);have HB1:=Hj (HB1.out.below HL.out);clear hb HC HL HKw6;clear HB1;have HC:=Hj (found_yes (some ⟨w2.heap.size,0,none⟩) none (some ⟨w7.heap.size,0,none⟩) none 2 2 0 0 2 0 _ _ _ _ _ _ _ _ _ (w7.alloc (.cells #[.int .i64 0,.int .i64 0] 2)) (HO1.out.below ((Kp.refl w7).alloc (.cells #[.int .i64 0,.int .i64 0] 2))) ⟨rfl,fun h=>absurd rfl h⟩ (IsAt.lit (Blk.new w7 2 #[.int .i64 0,.int .i64 0]) rfl rfl) ⟨rfl,fun h=>absurd rfl h⟩ ex25_1_ck ex25_1)
 go_wp2_with fail
 refine HC.out.mono ?_;rintro e w8 ⟨rfl,hb⟩;have HL:=Hj (show Below w7.heap.size w7 w8 from Below.trans ((Kp.refl w7).alloc (.cells #[.int .i64 0,.int .i64 0] 2)) (hb.mono (Below.size ((Kp.refl w7).alloc (.cells #[.int .i64 0,.int .i64 0] 2)))));have HKw8:=Hj (HKw7.out.trans (HL.out.mono HKw7.out.size));have HO1:=Hj (HO1.out.below HL.out);clear hb HC HL HKw7;clear HO1;have hcv:=curve25_any (some ⟨w8.heap.size,0,none⟩) 1 2 [2,-5] _ (IsAt.lit (Blk.new w8 2 #[.int .i64 2,.int .i64 (-5)]) rfl rfl) (by omega) (fits_lit (by simp));rw [show prs [2,-5] 1=[(2,-5)] from rfl] at hcv;have HC:=Hj (hcv)
 go_wp2_with fail
 refine HC.out.mono ?_;rintro e w9 ⟨A5,c5,rfl,hS,hb⟩;have HL:=Hj (show Below w8.heap.size w8 w9 from Below.trans ((Kp.refl w8).alloc (.cells #[.int .i64 2,.int .i64 (-5)] 2)) (hb.mono (Below.size ((Kp.refl w8).alloc (.cells #[.int .i64 2,.int .i64 (-5)] 2)))));have HKw9:=Hj (HKw8.out.trans (HL.out.mono HKw8.out.size));have HS5:=Hj hS;clear hS hcv;clear hb HC HL HKw8;have kx:=((Kp.refl w9).alloc (.cells #[.slice A5 1 c5] 29));have hcs:=CsAt.one (Blk.new w9 29 #[.slice A5 1 c5]) (HS5.out.below kx);have HC:=Hj (some25 (some ⟨w9.heap.size,0,none⟩) 1 1 (w9.alloc (.cells #[.slice A5 1 c5] 29)))
 go_wp2_with fail
 refine HC.out.mono ?_;rintro e w10 ⟨rfl,hb⟩;have HL:=Hj (show Below w9.heap.size w9 w10 from Below.trans ((Kp.refl w9).alloc (.cells #[.slice A5 1 c5] 29)) (hb.mono (Below.size ((Kp.refl w9).alloc (.cells #[.slice A5 1 c5] 29)))));have HKw10:=Hj (HKw9.out.trans (HL.out.mono HKw9.out.size));have HO2:=Hj (hcs.below hb);clear hcs kx;have HS5:=Hj (HS5.out.below HL.out);clear hb HC HL HKw9;clear HS5;have HC:=Hj (found_yes (some ⟨w9.heap.size,0,none⟩) none (some ⟨w10.heap.size,0,none⟩) none 1 1 0 0 1 0 _ _ _ _ _ _ _ _ _ (w10.alloc (.cells #[.int .i64 0] 2)) (HO2.out.below ((Kp.refl w10).alloc (.cells #[.int .i64 0] 2))) ⟨rfl,fun h=>absurd rfl h⟩ (IsAt.lit (Blk.new w10 2 #[.int .i64 0]) rfl rfl) ⟨rfl,fun h=>absurd rfl h⟩ ex25_2_ck ex25_2)
 go_wp2_with fail
 refine HC.out.mono ?_;rintro e w11 ⟨rfl,hb⟩;have HL:=Hj (show Below w10.heap.size w10 w11 from Below.trans ((Kp.refl w10).alloc (.cells #[.int .i64 0] 2)) (hb.mono (Below.size ((Kp.refl w10).alloc (.cells #[.int .i64 0] 2)))));have HKw11:=Hj (HKw10.out.trans (HL.out.mono HKw10.out.size));have HO2:=Hj (HO2.out.below HL.out);clear hb HC HL HKw10;clear HO2;have hcv:=curve25_any (some ⟨w11.heap.size,0,none⟩) 1 2 [2,3] _ (IsAt.lit (Blk.new w11 2 #[.int .i64 2,.int .i64 3]) rfl rfl) (by omega) (fits_lit (by simp));rw [show prs [2,3] 1=[(2,3)] from rfl] at hcv;have HC:=Hj (hcv)
 go_wp2_with fail
 refine HC.out.mono ?_;rintro e w12 ⟨A6,c6,rfl,hS,hb⟩;have HL:=Hj (show Below w11.heap.size w11 w12 from Below.trans ((Kp.refl w11).alloc (.cells #[.int .i64 2,.int .i64 3] 2)) (hb.mono (Below.size ((Kp.refl w11).alloc (.cells #[.int .i64 2,.int .i64 3] 2)))));have HKw12:=Hj (HKw11.out.trans (HL.out.mono HKw11.out.size));have HS6:=Hj hS;clear hS hcv;clear hb HC HL HKw11;have kx:=((Kp.refl w12).alloc (.cells #[.slice A6 1 c6] 29));have hcs:=CsAt.one (Blk.new w12 29 #[.slice A6 1 c6]) (HS6.out.below kx);have HC:=Hj (some25 (some ⟨w12.heap.size,0,none⟩) 1 1 (w12.alloc (.cells #[.slice A6 1 c6] 29)))
 go_wp2_with fail
 refine HC.out.mono ?_;rintro e w13 ⟨rfl,hb⟩;have HL:=Hj (show Below w12.heap.size w12 w13 from Below.trans ((Kp.refl w12).alloc (.cells #[.slice A6 1 c6] 29)) (hb.mono (Below.size ((Kp.refl w12).alloc (.cells #[.slice A6 1 c6] 29)))));have HKw13:=Hj (HKw12.out.trans (HL.out.mono HKw12.out.size));have HO3:=Hj (hcs.below hb);clear hcs kx;have HS6:=Hj (HS6.out.below HL.out);clear hb HC HL HKw12;clear HS6;have hcv:=curve25_any (some ⟨w13.heap.size,0,none⟩) 1 2 [5,8] _ (IsAt.lit (Blk.new w13 2 #[.int .i64 5,.int .i64 8]) rfl rfl) (by omega) (fits_lit (by simp));rw [show prs [5,8] 1=[(5,8)] from rfl] at hcv;have HC:=Hj (hcv)
 go_wp2_with fail
 refine HC.out.mono ?_;rintro e w14 ⟨A7,c7,rfl,hS,hb⟩;have HL:=Hj (show Below w13.heap.size w13 w14 from Below.trans ((Kp.refl w13).alloc (.cells #[.int .i64 5,.int .i64 8] 2)) (hb.mono (Below.size ((Kp.refl w13).alloc (.cells #[.int .i64 5,.int .i64 8] 2)))));have HKw14:=Hj (HKw13.out.trans (HL.out.mono HKw13.out.size));have HS7:=Hj hS;clear hS hcv;have HO3:=Hj (HO3.out.below HL.out);clear hb HC HL HKw13;have kx:=((Kp.refl w14).alloc (.cells #[.slice A7 1 c7] 29));have hcs:=CsAt.one (Blk.new w14 29 #[.slice A7 1 c7]) (HS7.out.below kx);have HC:=Hj (some25 (some ⟨w14.heap.size,0,none⟩) 1 1 (w14.alloc (.cells #[.slice A7 1 c7] 29)))
 go_wp2_with fail
 refine HC.out.mono ?_;rintro e w15 ⟨rfl,hb⟩;have HL:=Hj (show Below w14.heap.size w14 w15 from Below.trans ((Kp.refl w14).alloc (.cells #[.slice A7 1 c7] 29)) (hb.mono (Below.size ((Kp.refl w14).alloc (.cells #[.slice A7 1 c7] 29)))));have HKw15:=Hj (HKw14.out.trans (HL.out.mono HKw14.out.size));have HB3:=Hj (hcs.below hb);clear hcs kx;have HO3:=Hj (HO3.out.below HL.out);have HS7:=Hj (HS7.out.below HL.out);clear hb HC HL HKw14;clear HS7;have HC:=Hj (found_yes (some ⟨w12.heap.size,0,none⟩) (some ⟨w14.heap.size,0,none⟩) (some ⟨w15.heap.size,0,none⟩) (some ⟨w15.heap.size+1,0,none⟩) 1 1 1 1 1 1 _ _ _ _ _ _ _ _ _ ((w15.alloc (.cells #[.int .i64 2] 2)).alloc (.cells #[.int .i64 2] 2)) (HO3.out.below (((Kp.refl w15).alloc (.cells #[.int .i64 2] 2)).alloc (.cells #[.int .i64 2] 2))) (HB3.out.below (((Kp.refl w15).alloc (.cells #[.int .i64 2] 2)).alloc (.cells #[.int .i64 2] 2))) (IsAt.lit ((Blk.new w15 2 #[.int .i64 2]).alloc (.cells #[.int .i64 2] 2)) rfl rfl) (IsAt.lit (Blk.new1 w15 (.cells #[.int .i64 2] 2) 2 #[.int .i64 2]) rfl rfl) ex25_3_ck ex25_3)
 go_wp2_with fail
 refine HC.out.mono ?_;rintro e w16 ⟨rfl,hb⟩;have HL:=Hj (show Below w15.heap.size w15 w16 from Below.trans (((Kp.refl w15).alloc (.cells #[.int .i64 2] 2)).alloc (.cells #[.int .i64 2] 2)) (hb.mono (Below.size (((Kp.refl w15).alloc (.cells #[.int .i64 2] 2)).alloc (.cells #[.int .i64 2] 2)))));have HKw16:=Hj (HKw15.out.trans (HL.out.mono HKw15.out.size));have HO3:=Hj (HO3.out.below HL.out);have HB3:=Hj (HB3.out.below HL.out);clear hb HC HL HKw15;clear HO3;clear HB3;have hcv:=curve25_any (some ⟨w16.heap.size,0,none⟩) 1 2 [5,3] _ (IsAt.lit (Blk.new w16 2 #[.int .i64 5,.int .i64 3]) rfl rfl) (by omega) (fits_lit (by simp));rw [show prs [5,3] 1=[(5,3)] from rfl] at hcv;have HC:=Hj (hcv)
 go_wp2_with fail
 refine HC.out.mono ?_;rintro e w17 ⟨A8,c8,rfl,hS,hb⟩;have HL:=Hj (show Below w16.heap.size w16 w17 from Below.trans ((Kp.refl w16).alloc (.cells #[.int .i64 5,.int .i64 3] 2)) (hb.mono (Below.size ((Kp.refl w16).alloc (.cells #[.int .i64 5,.int .i64 3] 2)))));have HKw17:=Hj (HKw16.out.trans (HL.out.mono HKw16.out.size));have HS8:=Hj hS;clear hS hcv;clear hb HC HL HKw16;have kx:=((Kp.refl w17).alloc (.cells #[.slice A8 1 c8] 29));have hcs:=CsAt.one (Blk.new w17 29 #[.slice A8 1 c8]) (HS8.out.below kx);have HC:=Hj (some25 (some ⟨w17.heap.size,0,none⟩) 1 1 (w17.alloc (.cells #[.slice A8 1 c8] 29)))
 go_wp2_with fail
 refine HC.out.mono ?_;rintro e w18 ⟨rfl,hb⟩;have HL:=Hj (show Below w17.heap.size w17 w18 from Below.trans ((Kp.refl w17).alloc (.cells #[.slice A8 1 c8] 29)) (hb.mono (Below.size ((Kp.refl w17).alloc (.cells #[.slice A8 1 c8] 29)))));have HKw18:=Hj (HKw17.out.trans (HL.out.mono HKw17.out.size));have HO4:=Hj (hcs.below hb);clear hcs kx;have HS8:=Hj (HS8.out.below HL.out);clear hb HC HL HKw17;clear HS8;have hcv:=curve25_any (some ⟨w18.heap.size,0,none⟩) 1 2 [2,8] _ (IsAt.lit (Blk.new w18 2 #[.int .i64 2,.int .i64 8]) rfl rfl) (by omega) (fits_lit (by simp));rw [show prs [2,8] 1=[(2,8)] from rfl] at hcv;have HC:=Hj (hcv)
 go_wp2_with fail
 refine HC.out.mono ?_;rintro e w19 ⟨A9,c9,rfl,hS,hb⟩;have HL:=Hj (show Below w18.heap.size w18 w19 from Below.trans ((Kp.refl w18).alloc (.cells #[.int .i64 2,.int .i64 8] 2)) (hb.mono (Below.size ((Kp.refl w18).alloc (.cells #[.int .i64 2,.int .i64 8] 2)))));have HKw19:=Hj (HKw18.out.trans (HL.out.mono HKw18.out.size));have HS9:=Hj hS;clear hS hcv;have HO4:=Hj (HO4.out.below HL.out);clear hb HC HL HKw18;have kx:=((Kp.refl w19).alloc (.cells #[.slice A9 1 c9] 29));have hcs:=CsAt.one (Blk.new w19 29 #[.slice A9 1 c9]) (HS9.out.below kx);have HC:=Hj (some25 (some ⟨w19.heap.size,0,none⟩) 1 1 (w19.alloc (.cells #[.slice A9 1 c9] 29)))
 go_wp2_with fail
 refine HC.out.mono ?_;rintro e w20 ⟨rfl,hb⟩;have HL:=Hj (show Below w19.heap.size w19 w20 from Below.trans ((Kp.refl w19).alloc (.cells #[.slice A9 1 c9] 29)) (hb.mono (Below.size ((Kp.refl w19).alloc (.cells #[.slice A9 1 c9] 29)))));have HKw20:=Hj (HKw19.out.trans (HL.out.mono HKw19.out.size));have HB4:=Hj (hcs.below hb);clear hcs kx;have HO4:=Hj (HO4.out.below HL.out);have HS9:=Hj (HS9.out.below HL.out);clear hb HC HL HKw19;clear HS9;have HC:=Hj (found_yes (some ⟨w17.heap.size,0,none⟩) (some ⟨w19.heap.size,0,none⟩) (some ⟨w20.heap.size,0,none⟩) (some ⟨w20.heap.size+1,0,none⟩) 1 1 1 1 1 1 _ _ _ _ _ _ _ _ _ ((w20.alloc (.cells #[.int .i64 2] 2)).alloc (.cells #[.int .i64 2] 2)) (HO4.out.below (((Kp.refl w20).alloc (.cells #[.int .i64 2] 2)).alloc (.cells #[.int .i64 2] 2))) (HB4.out.below (((Kp.refl w20).alloc (.cells #[.int .i64 2] 2)).alloc (.cells #[.int .i64 2] 2))) (IsAt.lit ((Blk.new w20 2 #[.int .i64 2]).alloc (.cells #[.int .i64 2] 2)) rfl rfl) (IsAt.lit (Blk.new1 w20 (.cells #[.int .i64 2] 2) 2 #[.int .i64 2]) rfl rfl) ex25_4_ck ex25_4)
 go_wp2_with fail
 refine HC.out.mono ?_;rintro e w21 ⟨rfl,hb⟩;have HL:=Hj (show Below w20.heap.size w20 w21 from Below.trans (((Kp.refl w20).alloc (.cells #[.int .i64 2] 2)).alloc (.cells #[.int .i64 2] 2)) (hb.mono (Below.size (((Kp.refl w20).alloc (.cells #[.int .i64 2] 2)).alloc (.cells #[.int .i64 2] 2)))));have HKw21:=Hj (HKw20.out.trans (HL.out.mono HKw20.out.size));have HO4:=Hj (HO4.out.below HL.out);have HB4:=Hj (HB4.out.below HL.out);clear hb HC HL HKw20;clear HO4;clear HB4;have hcv:=curve25_any (some ⟨w21.heap.size,0,none⟩) 1 2 [5,-4] _ (IsAt.lit (Blk.new w21 2 #[.int .i64 5,.int .i64 (-4)]) rfl rfl) (by omega) (fits_lit (by simp));rw [show prs [5,-4] 1=[(5,-4)] from rfl] at hcv;have HC:=Hj (hcv)
 go_wp2_with fail
 refine HC.out.mono ?_;rintro e w22 ⟨A10,c10,rfl,hS,hb⟩;have HL:=Hj (show Below w21.heap.size w21 w22 from Below.trans ((Kp.refl w21).alloc (.cells #[.int .i64 5,.int .i64 (-4)] 2)) (hb.mono (Below.size ((Kp.refl w21).alloc (.cells #[.int .i64 5,.int .i64 (-4)] 2)))));have HKw22:=Hj (HKw21.out.trans (HL.out.mono HKw21.out.size));have HS10:=Hj hS;clear hS hcv;clear hb HC HL HKw21;have kx:=((Kp.refl w22).alloc (.cells #[.slice A10 1 c10] 29));have hcs:=CsAt.one (Blk.new w22 29 #[.slice A10 1 c10]) (HS10.out.below kx);have HC:=Hj (some25 (some ⟨w22.heap.size,0,none⟩) 1 1 (w22.alloc (.cells #[.slice A10 1 c10] 29)))
 go_wp2_with fail
 refine HC.out.mono ?_;rintro e w23 ⟨rfl,hb⟩;have HL:=Hj (show Below w22.heap.size w22 w23 from Below.trans ((Kp.refl w22).alloc (.cells #[.slice A10 1 c10] 29)) (hb.mono (Below.size ((Kp.refl w22).alloc (.cells #[.slice A10 1 c10] 29)))));have HKw23:=Hj (HKw22.out.trans (HL.out.mono HKw22.out.size));have HO5:=Hj (hcs.below hb);clear hcs kx;have HS10:=Hj (HS10.out.below HL.out);clear hb HC HL HKw22;clear HS10;have hcv:=curve25_any (some ⟨w23.heap.size,0,none⟩) 1 2 [5,6] _ (IsAt.lit (Blk.new w23 2 #[.int .i64 5,.int .i64 6]) rfl rfl) (by omega) (fits_lit (by simp));rw [show prs [5,6] 1=[(5,6)] from rfl] at hcv;have HC:=Hj (hcv)
 go_wp2_with fail
 refine HC.out.mono ?_;rintro e w24 ⟨A11,c11,rfl,hS,hb⟩;have HL:=Hj (show Below w23.heap.size w23 w24 from Below.trans ((Kp.refl w23).alloc (.cells #[.int .i64 5,.int .i64 6] 2)) (hb.mono (Below.size ((Kp.refl w23).alloc (.cells #[.int .i64 5,.int .i64 6] 2)))));have HKw24:=Hj (HKw23.out.trans (HL.out.mono HKw23.out.size));have HS11:=Hj hS;clear hS hcv;have HO5:=Hj (HO5.out.below HL.out);clear hb HC HL HKw23;have kx:=((Kp.refl w24).alloc (.cells #[.slice A11 1 c11] 29));have hcs:=CsAt.one (Blk.new w24 29 #[.slice A11 1 c11]) (HS11.out.below kx);have HC:=Hj (some25 (some ⟨w24.heap.size,0,none⟩) 1 1 (w24.alloc (.cells #[.slice A11 1 c11] 29)))
 go_wp2_with fail
 refine HC.out.mono ?_;rintro e w25 ⟨rfl,hb⟩;have HL:=Hj (show Below w24.heap.size w24 w25 from Below.trans ((Kp.refl w24).alloc (.cells #[.slice A11 1 c11] 29)) (hb.mono (Below.size ((Kp.refl w24).alloc (.cells #[.slice A11 1 c11] 29)))));have HKw25:=Hj (HKw24.out.trans (HL.out.mono HKw24.out.size));have HB5:=Hj (hcs.below hb);clear hcs kx;have HO5:=Hj (HO5.out.below HL.out);have HS11:=Hj (HS11.out.below HL.out);clear hb HC HL HKw24;clear HS11;have HC:=Hj (found_yes (some ⟨w22.heap.size,0,none⟩) (some ⟨w24.heap.size,0,none⟩) (some ⟨w25.heap.size,0,none⟩) (some ⟨w25.heap.size+1,0,none⟩) 1 1 1 1 1 1 _ _ _ _ _ _ _ _ _ ((w25.alloc (.cells #[.int .i64 5] 2)).alloc (.cells #[.int .i64 5] 2)) (HO5.out.below (((Kp.refl w25).alloc (.cells #[.int .i64 5] 2)).alloc (.cells #[.int .i64 5] 2))) (HB5.out.below (((Kp.refl w25).alloc (.cells #[.int .i64 5] 2)).alloc (.cells #[.int .i64 5] 2))) (IsAt.lit ((Blk.new w25 2 #[.int .i64 5]).alloc (.cells #[.int .i64 5] 2)) rfl rfl) (IsAt.lit (Blk.new1 w25 (.cells #[.int .i64 5] 2) 2 #[.int .i64 5]) rfl rfl) ex25_5_ck ex25_5)
 go_wp2_with fail
 refine HC.out.mono ?_;rintro e w26 ⟨rfl,hb⟩;have HL:=Hj (show Below w25.heap.size w25 w26 from Below.trans (((Kp.refl w25).alloc (.cells #[.int .i64 5] 2)).alloc (.cells #[.int .i64 5] 2)) (hb.mono (Below.size (((Kp.refl w25).alloc (.cells #[.int .i64 5] 2)).alloc (.cells #[.int .i64 5] 2)))));have HKw26:=Hj (HKw25.out.trans (HL.out.mono HKw25.out.size));have HO5:=Hj (HO5.out.below HL.out);have HB5:=Hj (HB5.out.below HL.out);clear hb HC HL HKw25;clear HO5;clear HB5;go_wp2;go_ret;exact ⟨rfl,HKw26.out⟩
theorem long25_any (A B:Option Addr) (n c m d:Nat) (os bs:List (List (Int×Int))) (w:World) (h:CsAt w A n os) (h':CsAt w B m bs) :
  Calls Tryz.prog 45 #[.slice A n c,.slice B m d] w fun e w'=>e=.returned (.bool (longC os || longC bs))∧Below w.heap.size w w':=by
 have H1:=Hj (long24_any A n c os w h);have H2:=Hj (fun W (hW:Below w.heap.size w W)=>long24_any B m d bs W (h'.below hW));clear h h';generalize longC os=x at *;generalize longC bs=y at *;go_enter Tryz.func45,Tryz.ntmps45
 go_wp2_with fail
 refine H1.out.mono ?_;rintro e w1 ⟨rfl,hb1⟩;have HB1:=Hj hb1;clear hb1;cases x
 ·go_wp2_with fail
  refine (H2.out w1 HB1.out).mono ?_;rintro e w2 ⟨rfl,hb2⟩;have HB2:=Hj (HB1.out.trans (hb2.mono HB1.out.size));clear hb2;go_wp2;go_ret;exact ⟨rfl,HB2.out⟩
 ·go_wp2;go_ret;exact ⟨rfl,HB1.out⟩
end Go.Proofs.YtjajigkacccdgaaGreat
namespace Go.Proofs.YtjajigkacccdgaaGreat
open Go.ChangeShapes Go.WideShapes Go.ChangeAt Go.RowKit Go.Deep
open Wd
theorem own:ownKnob Tryz.prog.godebug=none:=by kernel_rfl
theorem laidOut:laidOutB Tryz.prog=true:=by kernel_rfl
theorem cells_int64:Tryz.prog.cellsOf 2 = 1:=by kernel_rfl
theorem cells_steps:Tryz.prog.cellsOf 29 = 1:=by kernel_rfl
theorem cells_step:Tryz.prog.cellsOf 107 = 2:=by kernel_rfl
theorem fits_of {z:Int} (h:(Lit.int .i64 z).wf=true):Fits z:=by
 simp [Lit.wf,IntKind.min,IntKind.max,IntKind.signed,IntKind.bits] at h;unfold Fits;omega
theorem drop_one {α:Type} {l:List α} {o:Nat} {v:α} (h:(l.drop o).take 1=[v]):l[o]?=some v:=by
 have h0:((l.drop o).take 1)[0]?=some v:=by rw [h];rfl
 simpa using h0
theorem addr_plus (b o k:Nat):(⟨b,o,none⟩:Addr).add k=⟨b,o+k,none⟩:=by
 unfold Addr.add;split
 ·rename_i h;rw [h];rfl
 ·rfl
section
variable {H:Type} {enc:TypeId×Value→H} {W:World}
theorem plain_addr {a:Addr} {v:Value} (h:W.cell? a=some v):a=⟨a.block,a.off,none⟩∧a.block<W.heap.size:=by
 have h1:=World.cell?_spot h;have h2:=World.block_lt_of_cell? W a h;obtain ⟨b,o,s⟩:=a;simp only at h1 h2 ⊢;exact ⟨by rw [h1],h2⟩
theorem field_int {cs:List Value} {xs:List (DataW H×List MemPlace)} {n:Nat} {t:TypeId} {o j:Nat} (hu:Tryz.prog.underlying t=some (.int .i64)) (hc:Tryz.prog.cellsOf t=1) (hj:j<xs.length)
  (h:DataW.trod enc Tryz.prog W 0 (fun _=>true) true n t ((cs.drop o).take (Tryz.prog.cellsOf t))=xs[j]?):∃ z,cs[o]?=some (.int .i64 z)∧Fits z:=by
 rw [hc,List.getElem?_eq_getElem hj] at h;obtain ⟨z,hz,_,hw⟩:=DataW.trod_int hu h;exact ⟨z,drop_one hz,fits_of hw⟩
theorem st_of {fuel:Nat} {cs:List Value} {x:DataW H×List MemPlace} (h:DataW.trod enc Tryz.prog W 0 (fun _=>true) true fuel 29 cs=some x):∃ A n c l,cs=[.slice A n c]∧StAt W A n l:=by
 rcases open_slice Tryz.underlying29 h with ⟨rfl,_⟩|⟨a,len,cap,m,n,D,Pl,rfl,_,hl,_,hmm,_,hi⟩
 ·exact ⟨none,0,0,[],rfl,rfl,by simp,fun h=>absurd rfl h⟩
 ·simp only [if_true] at hmm;have each:∀ i,i<len→∃ s:Int×Int,(Fits s.1∧Fits s.2)∧W.cell? (a.add (i*2))=some (.int .i64 s.1)∧W.cell? (a.add (i*2+1))=some (.int .i64 s.2):=by
   intro i hil;obtain ⟨cs',hc,ht⟩:=hi i (by omega);rw [cells_step] at hc;obtain ⟨xs,k,_,_,_,hxl,hf⟩:=DataW.trod_struct Tryz.underlying107 ht;have hxl2:xs.length=2:=hxl;obtain ⟨_,hcl,hcell⟩:=World.cells?_some hc;obtain ⟨q,hq,fq⟩:=field_int (t:=2) (o:=0) (j:=0) Tryz.underlying2 cells_int64 (by omega) (hf 0 _ rfl);obtain ⟨p,hp,fp⟩:=field_int (t:=2) (o:=1) (j:=1) Tryz.underlying2 cells_int64 (by omega) (hf 1 _ rfl);refine ⟨(q,p),⟨fq,fp⟩,?_,?_⟩
   ·have:=hcell 0 (by omega);rw [hq] at this;exact this
   ·have:=hcell 1 (by omega);rw [hp] at this;rw [← add_add];exact this
  obtain ⟨F,hF⟩:=choose_lt each;refine ⟨some a,len,cap,(List.range len).map F,rfl,by simp,?_,fun hn=>?_⟩
  ·intro s hs;obtain ⟨i,hi',rfl⟩:=List.mem_map.1 hs;exact (hF i (List.mem_range.1 hi')).1
  ·have h0:=(hF 0 (by omega)).2.1;obtain ⟨e,hb⟩:=plain_addr h0;have hsp:a.spot=none:=by have:=congrArg Addr.spot e;simpa [Addr.add] using this
   have ea:a=⟨a.block,a.off,none⟩:=by obtain ⟨b,o,s⟩:=a;simp only at hsp ⊢;rw [hsp]
   refine ⟨a.block,a.off,by rw [← ea],by simpa [Addr.add] using hb,fun j hj=>?_⟩;have e1:((List.range len).map F)[j]?.getD (0,0)=F j:=by simp [hj]
   obtain ⟨_,c1,c2⟩:=hF j hj;rw [ea,addr_plus] at c1 c2;rw [e1];exact ⟨c1,c2⟩
theorem css_of {fuel:Nat} {cs:List Value} {x:DataW H×List MemPlace} (h:DataW.trod enc Tryz.prog W 0 (fun _=>true) true fuel 22 cs=some x):∃ A n c ls,cs=[.slice A n c]∧CsAt W A n ls:=by
 rcases open_slice1 Tryz.underlying22 cells_steps h with ⟨rfl,_⟩|⟨a,len,cap,m,n,V,D,Pl,rfl,_,hl,_,hmm,_,hi⟩
 ·exact ⟨none,0,0,[],rfl,rfl,fun h=>absurd rfl h⟩
 ·simp only [if_true] at hmm;have each:∀ i,i<len→∃ l:List (Int×Int),∃ A' n' c',W.cell? (a.add i)=some (.slice A' n' c')∧StAt W A' n' l:=by
   intro i hil;obtain ⟨hc,ht⟩:=hi i (by omega);obtain ⟨A',n',c',l,hl',hst⟩:=st_of ht;exact ⟨l,A',n',c',by rw [hc];simpa using hl',hst⟩
  obtain ⟨F,hF⟩:=choose_lt each;refine ⟨some a,len,cap,(List.range len).map F,rfl,by simp,fun hn=>?_⟩;obtain ⟨_,_,_,h0,_⟩:=hF 0 (by omega);obtain ⟨e,hb⟩:=plain_addr h0;have hsp:a.spot=none:=by have:=congrArg Addr.spot e;simpa [Addr.add] using this
  have ea:a=⟨a.block,a.off,none⟩:=by obtain ⟨b,o,s⟩:=a;simp only at hsp ⊢;rw [hsp]
  refine ⟨a.block,a.off,by rw [← ea],by simpa [Addr.add] using hb,fun j hj=>?_⟩;have e1:((List.range len).map F)[j]?.getD []=F j:=by simp [hj]
  obtain ⟨A',n',c',c1,hs⟩:=hF j hj;rw [ea,addr_plus] at c1;rw [e1];exact ⟨A',n',c',c1,hs⟩
end
section
variable {H:Type} {enc:TypeId×Value→H} {P:Program} {W:World}
theorem args_stay (hlo:laidOutB P=true) {W':World} (hb:Below W.heap.size W W') (sp:Nat→Bool):∀ {ts:List TypeId} {vs:List Value} {ds:List (DataW H)} {ps:List MemPlace},
  (∀ t∈ts,P.readableRec t=true∧t<P.types.size)→DataW.TrodAll enc P W 0 (fun _=>true) true ts vs ds ps→(∀ p∈ps,p.block<W.heap.size)→(∀ p∈ps,sp p.block=true) →
  DataW.TrodAll enc P W' 0 sp true ts vs ds ps
 | [],_,_,_,_,h,_,_=>by obtain ⟨rfl,rfl,rfl⟩:=trodAll_nil h;exact trodAll_mk0
 | t :: ts,_,_,_,hr,h,hlt,hs=>by
  obtain ⟨v,vs',d,ds',p,q,rfl,rfl,rfl,h1,h2⟩:=trodAll_cons h;have hr1:=hr t (List.mem_cons_self ..);exact trodAll_cons_mk (WideElems.Trod_stays hlo hr1.1 hr1.2 h1 (fun x hx=>hb.same (hlt x (List.mem_append_left _ hx))) (fun x hx=>hs x (List.mem_append_left _ hx)))
   (args_stay hlo hb sp (fun y hy=>hr y (List.mem_cons_of_mem _ hy)) h2 (fun x hx=>hlt x (List.mem_append_right _ hx)) (fun x hx=>hs x (List.mem_append_right _ hx)))
theorem post_true (hlo:laidOutB P=true) {f:Func} {s:ChangeSpec} {W':World} {args:Array Value} {ds:List (DataW H)} {before:List MemPlace} {tb:TypeId} (hbool:P.underlying tb=some .bool) (hv:s.vars=[]) (hr1:f.resultTypes=#[tb])
  (hr:∀ t∈f.params.toList,P.readableRec t=true∧t<P.types.size)
  (hW:DataW.Whole enc P f.params.toList s.vars false W args.toList ds [] before) (hres:(s.fn H (ds ++ [])).results=[.lit (.bool true)]) (hargs:(s.fn H (ds ++ [])).args=ds) (hvars:(s.fn H (ds ++ [])).vars=[]) (hb:Below W.heap.size W W') :
  s.post enc P f false true false false W args (.bool true) W':=by
 have hW':=hW;obtain ⟨p,q,hA,hV,rfl,hz,hn⟩:=hW;rw [hv] at hV;obtain ⟨_,rfl⟩:=trodVars_none hV;have hlt:∀ x∈p ++ [],x.block<W.heap.size:=fun x hx=>hW'.lt x hx;have hlt':∀ x∈p,x.block<W.heap.size:=fun x hx=>hlt x (by simpa using hx);have hold:∀ x∈p,(fun b=>decide (b<W.heap.size)) x.block=true:=fun x hx=>by simpa using hlt' x hx
 have hRes:∀ (b:Nat) (sp:Nat→Bool) (hd:Bool),DataW.TrodAll enc P W' b sp hd f.resultTypes.toList ((Value.bool true).resultList f.resultTypes.size) (s.fn H (ds ++ [])).results []:=fun b sp hd=>by
  rw [hres,hr1];exact trodAll_cons_mk (shut_bool hbool true) trodAll_mk0
 have hArg:∀ sp:Nat→Bool,(∀ x∈p,sp x.block=true)→DataW.TrodAll enc P W' 0 sp true f.params.toList args.toList (s.fn H (ds ++ [])).args p:=fun sp hsp=>by
  rw [hargs];exact args_stay hlo hb sp hr hA hlt' hsp
 have hVar:∀ sp:Nat→Bool,DataW.TrodVars enc P W' sp s.vars (s.fn H (ds ++ [])).vars []:=fun sp=>by
  rw [hv,hvars];rfl
 refine ⟨ds,[],p ++ [],[],p,[],hW',hRes _ _ _,hArg _ (by simpa using hold),hVar _,World.keptBut_mono (fun x hx=>⟨hx,?_⟩) (hb.frame (·∈p ++ [])),fun _=>?_⟩
 ·exact Or.inr (by simpa using hx)
 ·refine ⟨ok_one hr1 rfl (okWide_bool_mk hbool _),_,_,([] ++ p) ++ [],⟨[] ++ p,[],trodAll_append (hArg _ (fun _ _=>rfl)) (hRes _ _ _),hVar _,rfl,?_,?_⟩,?_⟩
  ·intro b off hp;have hin:MemPlace.cell b off∈p ++ []:=by simpa using hp
   rw [hb.frozen (hlt _ hin)];exact hz b off hin
  ·intro ha;cases ha
  ·intro x hx _;simpa using hx
end
theorem rowed {P:Program} {ps:Array TypeId} (h:(ps.toList.all fun t=>P.readableRec t && decide (t<P.types.size))=true):∀ t∈ps.toList,P.readableRec t=true∧t<P.types.size:=by
 intro t ht;have:=List.all_eq_true.1 h t ht;simpa using this
theorem cells_u32:Tryz.prog.cellsOf 59 = 1:=by kernel_rfl
theorem cells_u32s:Tryz.prog.cellsOf 38 = 1:=by kernel_rfl
theorem cells_boolq:Tryz.prog.cellsOf 4 = 1:=by kernel_rfl
theorem cells_z:Tryz.prog.cellsOf 40 = 2:=by kernel_rfl
theorem cells_q:Tryz.prog.cellsOf 42 = 4:=by kernel_rfl
theorem u32_of {z:Int} (h:(Lit.int .u32 z).wf=true):∃ i:Nat,z=(i:Int)∧i<4294967296:=by
 simp [Lit.wf,IntKind.min,IntKind.max,IntKind.signed,IntKind.bits] at h;exact ⟨z.toNat,by omega,by omega⟩
section
variable {H:Type} {enc:TypeId×Value→H} {W:World}
theorem ws_of {fuel:Nat} {cs:List Value} {x:DataW H×List MemPlace} (h:DataW.trod enc Tryz.prog W 0 (fun _=>true) true fuel 38 cs=some x):∃ A n c l,cs=[.slice A n c]∧Wat W A n l∧n≤c:=by
 rcases open_slice1 Tryz.underlying38 cells_u32 h with ⟨rfl,_⟩|⟨a,len,cap,m,n,V,D,Pl,rfl,hlc,hl,_,hmm,_,hi⟩
 ·exact ⟨none,0,0,[],rfl,Wat.nil,Nat.le_refl _⟩
 ·simp only [if_true] at hmm;have each:∀ i,i<len→∃ z:Nat,W.cell? (a.add i)=some (.int .u32 (z:Int))∧z<4294967296:=by
   intro i hil;obtain ⟨hc,ht⟩:=hi i (by omega);obtain ⟨z,hz,_,hw⟩:=DataW.trod_int Tryz.underlying59 ht;obtain ⟨i',rfl,hi'⟩:=u32_of hw;exact ⟨i',by rw [hc];simpa using hz,hi'⟩
  obtain ⟨F,hF⟩:=choose_lt each;refine ⟨some a,len,cap,(List.range len).map F,rfl,⟨by simp,?_,fun hn=>?_⟩,?_⟩
  ·intro z hz;obtain ⟨i,hi',rfl⟩:=List.mem_map.1 hz;exact (hF i (List.mem_range.1 hi')).2
  ·obtain ⟨e,hb⟩:=plain_addr (hF 0 (by omega)).1;have hsp:a.spot=none:=by have:=congrArg Addr.spot e;simpa [Addr.add] using this
   have ea:a=⟨a.block,a.off,none⟩:=by obtain ⟨b,o,s⟩:=a;simp only at hsp ⊢;rw [hsp]
   refine ⟨a.block,a.off,by rw [← ea],by simpa [Addr.add] using hb,fun j hj=>?_⟩;have e1:((List.range len).map F)[j]?.getD 0=F j:=by simp [hj]
   have c1:=(hF j hj).1;rw [ea,addr_plus] at c1;rw [e1];exact c1
  ·omega
theorem z_of {fuel:Nat} {cs:List Value} {x:DataW H×List MemPlace} (hcl:cs.length=2) (h:DataW.trod enc Tryz.prog W 0 (fun _=>true) true fuel 40 cs=some x):∃ an A n c l,cs=[.bool an,.slice A n c]∧Wat W A n l∧n≤c:=by
 obtain ⟨xs,k,_,_,_,hxl,hg⟩:=DataW.trod_struct Tryz.underlying40 h;have hxl2:xs.length=2:=hxl;have h0:DataW.trod enc Tryz.prog W 0 (fun _=>true) true k 4 ((cs.drop 0).take (Tryz.prog.cellsOf 4))=xs[0]?:=hg 0 _ rfl;have h1:DataW.trod enc Tryz.prog W 0 (fun _=>true) true k 38 ((cs.drop 1).take (Tryz.prog.cellsOf 38))=xs[1]?:=hg 1 _ rfl;rw [cells_boolq,List.getElem?_eq_getElem (by omega)] at h0;rw [cells_u32s,List.getElem?_eq_getElem (by omega)] at h1;obtain ⟨an,e0,_⟩:=DataW.trod_bool Tryz.underlying4 h0;obtain ⟨A,n,c,l,e1,hw,hc⟩:=ws_of h1;have d0:=drop_one e0;have d1:=drop_one e1;refine ⟨an,A,n,c,l,?_,hw,hc⟩
 match cs,hcl with
 | [a,b],_ =>
  simp at d0 d1;rw [d0,d1]
theorem q_of {base:Nat} {v:Value} {d:DataW H} {p:List MemPlace} (hv:Value.okWide Tryz.prog W .any base 42 v) (h:DataW.Trod enc Tryz.prog W 0 (fun _=>true) true 42 v d p) :
  ∃ an A n c an' A' n' c',v=.agg #[.bool an,.slice A n c,.bool an',.slice A' n' c']∧QRaw W A n c A' n' c':=by
 obtain ⟨cs,rfl,hsz⟩:=okWide_struct Tryz.underlying42 hv;obtain ⟨fuel,hf⟩:=h;obtain ⟨cl⟩:=cs;rw [cells_q] at hsz;obtain ⟨xs,k,_,_,_,hxl,hg⟩:=DataW.trod_struct Tryz.underlying42 hf;have hxl2:xs.length=2:=hxl;have hcl:cl.length=4:=hsz;have h0:DataW.trod enc Tryz.prog W 0 (fun _=>true) true k 40 ((cl.drop 0).take (Tryz.prog.cellsOf 40))=xs[0]?:=hg 0 _ rfl;have h1:DataW.trod enc Tryz.prog W 0 (fun _=>true) true k 40 ((cl.drop 2).take (Tryz.prog.cellsOf 40))=xs[1]?:=hg 1 _ rfl;rw [cells_z,List.getElem?_eq_getElem (by omega)] at h0 h1;obtain ⟨an,A,n,c,l,e0,w0,b0⟩:=z_of (by simp;omega) h0;obtain ⟨an',A',n',c',l',e1,w1,b1⟩:=z_of (by simp;omega) h1;refine ⟨an,A,n,c,an',A',n',c',?_,l,l',w0,w1,b0,b1⟩
 match cl,hcl with
 | [a,b,a',b'],_ =>
  simp at e0 e1;rw [e0.1,e0.2,e1.1,e1.2]
end
section
variable {H:Type} {enc:TypeId×Value→H} {W:World}
def QWs (W:World) (e:QE):Prop:=∃ l l',Wat W e.2.1.1 e.2.1.2.1 l∧Wat W e.2.2.2.1 e.2.2.2.2.1 l'∧e.2.1.2.1≤e.2.1.2.2∧e.2.2.2.2.1≤e.2.2.2.2.2
def GRaw (W:World) (A:Option Addr) (m:Nat) (es:List QE):Prop:=QsAtR W A m es∧(∀ j,j<m→QWs W (es[j]?.getD QE0))∧m≤maxLen
theorem qs_of {fuel:Nat} {cs:List Value} {x:DataW H×List MemPlace} (h:DataW.trod enc Tryz.prog W 0 (fun _=>true) true fuel 46 cs=some x):∃ A n c es,cs=[.slice A n c]∧GRaw W A n es:=by
 rcases open_slice Tryz.underlying46 h with ⟨rfl,_⟩|⟨a,len,cap,m,n,D,Pl,rfl,_,hl,hcm,hmm,_,hi⟩
 ·exact ⟨none,0,0,[],rfl,⟨rfl,fun h=>absurd rfl h⟩,fun j hj=>absurd hj (by omega),Nat.zero_le _⟩
 ·simp only [if_true] at hmm;have each:∀ i,i<len→∃ e:QE,(W.cell? (a.add (i*4))=some (.bool e.1)∧W.cell? (a.add (i*4+1))=some (.slice e.2.1.1 e.2.1.2.1 e.2.1.2.2)∧W.cell? (a.add (i*4+2))=some (.bool e.2.2.1)∧W.cell? (a.add (i*4+3))=some (.slice e.2.2.2.1 e.2.2.2.2.1 e.2.2.2.2.2))∧QWs W e:=by
   intro i hil;obtain ⟨cs',hc,ht⟩:=hi i (by omega);rw [cells_q] at hc;obtain ⟨xs,k,_,_,_,hxl,hg⟩:=DataW.trod_struct Tryz.underlying42 ht;have hxl2:xs.length=2:=hxl;obtain ⟨_,hcl,hcell⟩:=World.cells?_some hc;have h0:DataW.trod enc Tryz.prog W 0 (fun _=>true) true k 40 ((cs'.drop 0).take (Tryz.prog.cellsOf 40))=xs[0]?:=hg 0 _ rfl;have h1:DataW.trod enc Tryz.prog W 0 (fun _=>true) true k 40 ((cs'.drop 2).take (Tryz.prog.cellsOf 40))=xs[1]?:=hg 1 _ rfl;rw [cells_z,List.getElem?_eq_getElem (by omega)] at h0 h1;obtain ⟨an,A,n,c,l,e0,w0,b0⟩:=z_of (by simp;omega) h0;obtain ⟨an',A',n',c',l',e1,w1,b1⟩:=z_of (by simp;omega) h1;refine ⟨(an,(A,n,c),an',(A',n',c')),?_,l,l',w0,w1,b0,b1⟩;have r0:=hcell 0 (by omega);have r1:=hcell 1 (by omega);have r2:=hcell 2 (by omega);have r3:=hcell 3 (by omega)
   match cs',hcl with
   | [p0,p1,p2,p3],_ =>
    simp at e0 e1;obtain ⟨rfl,rfl⟩:=e0;obtain ⟨rfl,rfl⟩:=e1;exact ⟨r0,by rw [← add_add];exact r1,by rw [← add_add];exact r2,by rw [← add_add];exact r3⟩
  obtain ⟨F,hF⟩:=choose_lt each;have e1:∀ j,j<len→((List.range len).map F)[j]?.getD QE0=F j:=fun j hj=>by simp [hj]
  refine ⟨some a,len,cap,(List.range len).map F,rfl,⟨by simp,fun hn=>?_⟩,fun j hj=>by rw [e1 j hj];exact (hF j hj).2,Nat.le_trans hl hcm⟩;obtain ⟨⟨h0,_⟩,_⟩:=hF 0 (by omega);obtain ⟨e,hb⟩:=plain_addr h0;have hsp:a.spot=none:=by have:=congrArg Addr.spot e;simpa [Addr.add] using this
  have ea:a=⟨a.block,a.off,none⟩:=by obtain ⟨b,o,s⟩:=a;simp only at hsp ⊢;rw [hsp]
  refine ⟨a.block,a.off,by rw [← ea],by simpa [Addr.add] using hb,fun j hj=>?_⟩;obtain ⟨⟨c0,c1,c2,c3⟩,hs⟩:=hF j hj;rw [ea,addr_plus] at c0 c1 c2 c3;rw [e1 j hj];exact ⟨c0,c1,c2,c3⟩
end
theorem GRaw.qs {W:World} {A:Option Addr} {m:Nat} {es:List QE} (h:GRaw W A m es) (hb:es.any bigQ=false):∃ qs,QsS 7 W A m qs:=by
 have each:∀ j,j<m→∃ q,QS 7 W (es[j]?.getD QE0).1 (es[j]?.getD QE0).2.1.1 (es[j]?.getD QE0).2.1.2.1 (es[j]?.getD QE0).2.1.2.2 (es[j]?.getD QE0).2.2.1 (es[j]?.getD QE0).2.2.2.1 (es[j]?.getD QE0).2.2.2.2.1 (es[j]?.getD QE0).2.2.2.2.2 q:=fun j hj=>by
  obtain ⟨l,l',w1,w2,c1,c2⟩:=h.2.1 j hj;have hbj:bigQ (es[j]?.getD QE0)=false:=by
   rw [List.any_eq_false] at hb;have:=hb _ (getD_mem (d:=QE0) (by rw [h.1.1];exact hj));simpa using this
  unfold bigQ at hbj;simp only [Bool.or_eq_false_iff,decide_eq_false_iff_not] at hbj;exact qk_raw w1 w2 c1 c2 (by omega) (by omega)
 obtain ⟨F,hF⟩:=choose_lt each;refine ⟨(List.range m).map F,by simp,fun hn=>?_⟩;obtain ⟨b,o,e,hlt,hc⟩:=h.1.2 hn;refine ⟨b,o,e,hlt,fun j hj=>?_⟩;have e1:((List.range m).map F)[j]?.getD 0=F j:=by simp [hj]
 rw [e1];obtain ⟨c0,c1,c2,c3⟩:=hc j hj;exact ⟨_,_,_,_,_,_,_,_,c0,c1,c2,c3,hF j hj⟩
end Go.Proofs.YtjajigkacccdgaaGreat
namespace Go.Proofs.YtjajigkacccdgaaGreat
open Go.RowKit
open Wd
theorem wfE_zero {os bs:List (List (Int×Int))} {gs ts:List Rat} (h:wfE os bs gs ts=0):ckB os bs=0∧gs.length=os.length∧ts.length=bs.length∧goodA os gs∧goodA bs ts∧qtyA gs os.length=qtyA ts bs.length:=by
 unfold wfE at h;by_cases c1:ckB os bs=0
 ·rw [if_neg (by simpa using c1)] at h;by_cases c2:gs.length≠os.length∨ts.length≠bs.length
  ·rw [if_pos c2] at h;simp at h
  ·rw [if_neg c2] at h;by_cases c3:¬ goodA os gs∨¬ goodA bs ts
   ·rw [if_pos c3] at h;simp at h
   ·rw [if_neg c3] at h;by_cases c4:qtyA gs os.length=qtyA ts bs.length
    ·have e1:goodA os gs:=Classical.byContradiction fun hh=>c3 (Or.inl hh);have e2:goodA bs ts:=Classical.byContradiction fun hh=>c3 (Or.inr hh);exact ⟨c1,by omega,by omega,e1,e2,c4⟩
    ·rw [if_pos c4] at h;simp at h
 ·rw [if_pos c1] at h;exact absurd h c1
theorem wfV_ls {os bs:List (List (Int×Int))} {gs ts:List Rat} (hck:ckB os bs=0) (hx:goodA os gs) (hy:goodA bs ts) (hlg:∀ j,j<os.length→Ls 7 (gs[j]?.getD 0)) (hlt:∀ j,j<bs.length→Ls 7 (ts[j]?.getD 0)):Ls 200000 (wfV os bs gs ts):=by
 obtain ⟨l1,l2,k3,k4⟩:=ckB_iff.1 hck;have m1:Ls 50000 (moneyA os gs os.length):=(moneyA_ls (s:=7) (by decide) (fun j hj=>curve_good (k3 _ (getD_mem (d:=[]) (by omega)))) (fun j hj=>(hx j (by omega)).1) hlg _ (Nat.le_refl _)).mono (by omega);have m2:Ls 50000 (moneyA bs ts bs.length):=(moneyA_ls (s:=7) (by decide) (fun j hj=>curve_good (k4 _ (getD_mem (d:=[]) (by omega)))) (fun j hj=>(hy j (by omega)).1) hlt _ (Nat.le_refl _)).mono (by omega);exact (m2.sub m1).mono (by decide)
end Go.Proofs.YtjajigkacccdgaaGreat
