/-
Lemmas of the walk; no further conditions.
-/
import Derived.Test.YtjajigkacccdgaaGreatThAZ
import Derived.Test.YtjajigkacccdgaaGreatThAY
set_option linter.unusedVariables false
set_option linter.unusedSimpArgs false
set_option maxRecDepth 100000
set_option maxHeartbeats 16000000
namespace Go.Proofs.YtjajigkacccdgaaGreat
open Go.RowKit
open Wd
theorem fill_over (M Nn Nd:Nat) (HO:WOK M) (hM1:2*(Nn*Nd)≤M) (hM2:Nd*Nd≤M) (hnm:Nn≤M) (hdm:Nd≤M) (hN:768000000<Nn) (hN2:Nn≤M) (hD:1<Nd)
  (up:Bool) (A:Option Addr) (n nn c:Nat) (lv:List St.Lv) (an an':Bool) (aA aA':Option Addr) (ak ac ak' ac':Nat) (q:Rat) (w:World) (h:LvAt w A n nn lv) (hq:QAt Nn Nd w an aA ak ac an' aA' ak' ac' q)
  (hv:VL up nn lv) (h0:0≤q) (h1:((totI lv:Int):Rat)<q) :
  Calls Tryz.prog 84 #[.slice A n c,.agg #[.bool an,.slice aA ak ac,.bool an',.slice aA' ak' ac']] w
   (fun e w'=>e=.returned (.tuple #[.slice none 0 0,.int .i64 1])∧Below w.heap.size w w'):=by
 have hln:=h.1;have hn:n≤48:=by have:=hv.len;omega
 have hbd:=tot_bd lv hv.qty;have hok:=hv.okQ;have hN3:16000000<Nn:=by omega
 have CC:=fun W (hW:Below w.heap.size w W)=>check_ok up A n nn c lv W (h.below hW) hv;have SM:=fun W (hW:Below w.heap.size w W)=>total_ok up A n nn c lv W (h.below hW) hv;have SG:=fun W (hW:Below w.heap.size w W)=>qsign_any an an' aA aA' ak ac ak' ac' q W (hq.below hW);have hsg:decide (sgnQ q<0)=false:=by
  have:=Rat.num_nonneg.2 h0;unfold sgnQ cmpI;split
  ·omega
  ·split<;>simp
 have hcm:decide (0<cmpQ q ((totI lv:Int):Rat))=true:=by
  unfold cmpQ;rw [if_neg (by grind),if_pos h1];simp
 have FI:=fun W=>qfromInt64_any (totI lv) W (by omega) (by omega);have hCM:∀ W (hW:Below w.heap.size w W) (B B':Option Addr) (k d k' d':Nat),k≤d→k'≤d'→Wat W B k (digs ((totI lv:Int):Rat).num.natAbs)→Wat W B' k' (denW ((totI lv:Int):Rat).den) →
   Calls Tryz.prog 43 #[.agg #[.bool an,.slice aA ak ac,.bool an',.slice aA' ak' ac'],.agg #[.bool (decide (((totI lv:Int):Rat).num<0)),.slice B k d,.bool false,.slice B' k' d']] W fun e w'=>e=.returned (.int .i64 (cmpQ q ((totI lv:Int):Rat)))∧Below W.heap.size W w':=by
  intro W hW B B' k d k' d' hk hk' h5 h6;refine qcmp_any (Nn:=Nn) (Nd:=Nd) an an' _ false aA aA' B B' ak ac ak' ac' k d k' d' q _ W (hq.below hW) (qat_canon hk hk' h5 h6 ?_ ?_ ?_ hD)
  ·rw [← h5.1,show ((totI lv:Int):Rat).num=totI lv from rfl];exact Nat.le_trans (len_le_two (by omega)) (by omega)
  ·rw [← h6.1,show ((totI lv:Int):Rat).den=1 from rfl];simp [denW]
  ·show (totI lv).natAbs<Nn;omega
 have HLN:Hid ((lvQ lv).length=n):=Hj (by rw [lvQ_len];exact hln);generalize sgnQ q=sq at *;generalize cmpQ q ((totI lv:Int):Rat)=cq at *;generalize hqr:((totI lv:Int):Rat)=qs at *;have hs1:0≤totI lv:=by omega
 have hs2:totI lv≤768000000:=by omega
 generalize totI lv=sl at *;have CC:=Hj CC;have SM:=Hj SM;have SG:=Hj SG;have FI:=Hj FI;have HCM:=Hj hCM;have HQ:=Hj hq;have HST:=Hj h;generalize hlq:lvQ lv=l at *;have HLQ:=Hj hlq;clear hlq hln;clear hCM hbd hqr h h1 hv hq;go_enter Tryz.func84,Tryz.ntmps84
 go_wp2_with fail
 obtain ⟨hB0,hBW,hsz⟩:=pre1 w 42 #[.bool an,.slice aA ak ac,.bool an',.slice aA' ak' ac'];generalize w.alloc (.cells #[.bool an,.slice aA ak ac,.bool an',.slice aA' ak' ac'] 42)=W at *;have HSZ:=Hj hsz;clear hsz;refine (CC.out W hBW).mono ?_;rintro e w1 ⟨rfl,hb1⟩;have hB0:=hB0.below hb1 hB0.lt;have hBW:Below w.heap.size w w1:=hBW.trans (hb1.mono hBW.size);clear hb1 HSZ CC;have hBK:∀ w',Kp w1 w'→Below w.heap.size w w':=fun w' hk=>hBW.trans (Below.mono hk hBW.size);have HBK:=Hj hBK;clear hBK;have s5:=Kp.refl w1
 go_wp2_with fail
 have hS:∀ w',Kp w1 w'→(w'.cell? ⟨w.heap.size,0,none⟩=some (.bool an)∧w'.cell? ⟨w.heap.size,1,none⟩=some (.slice aA ak ac)∧w'.cell? ⟨w.heap.size,2,none⟩=some (.bool an')∧w'.cell? ⟨w.heap.size,3,none⟩=some (.slice aA' ak' ac'))∧Kp w1 w':=fun w' hk=>⟨⟨(hk.blk hB0).cell 0,(hk.blk hB0).cell 1,(hk.blk hB0).cell 2,(hk.blk hB0).cell 3⟩,hk⟩;have HS:=Hj hS;clear hS
 go_region_held3 (fun w'=>(w'.cell? ⟨w.heap.size,0,none⟩=some (.bool an)∧w'.cell? ⟨w.heap.size,1,none⟩=some (.slice aA ak ac)∧w'.cell? ⟨w.heap.size,2,none⟩=some (.bool an')∧w'.cell? ⟨w.heap.size,3,none⟩=some (.slice aA' ak' ac'))∧Kp w1 w')
  (with_reducible first|(refine HS.out _ ?_;assumption)|(refine HS.out _ (Kp.drew ?_);assumption)|(refine' HS.out _ (Kp.drew (And.right ?_));rotate_left;assumption))
  (first
   | (go_at_call 57;have hk:=And.right ‹_∧Kp w1 _›;refine (SG.out _ (HBK.out _ hk)).mono ?_;rintro e v1 ⟨rfl,hb1⟩;have hr1:=hk.trans hb1;clear hb1)
   | (go_at_call 29;have hk:=And.right ‹_∧Kp w1 _›;refine (SM.out _ (HBK.out _ hk)).mono ?_;rintro e v2 ⟨rfl,hb2⟩;have hr2:=hk.trans hb2;clear hb2)
   | (go_at_call 40;have hk:=And.right ‹_∧Kp w1 _›;refine (FI.out _).mono ?_;rintro e v3 ⟨A3,k3,c3,A4,k4,c4,rfl,hk3,hk4,hW3,hW4,hF3,hF4,hb3⟩;have hr3:=hk.trans hb3;clear hb3)
   | (go_at_call 43;have hk:=And.right ‹_∧Kp w1 _›;refine (HCM.out _ (HBK.out _ hk) A3 A4 k3 c3 k4 c4 hk3 hk4 hW3 hW4).mono ?_;rintro e v4 ⟨rfl,hb4⟩;have hr4:=hk.trans hb4;clear hb4))
 rename_i hHeld
 have hB4:Below w.heap.size w v4:=HBK.out _ hr4;have HF:=Hj hB4;clear hB4 hHeld hr1 hr2 hr3 hr4 hW3 hW4 hF3 hF4 HCM FI SG SM HBK;go_wp2;go_ret2;exact ⟨rfl,HF.out⟩
theorem share_over (up:Bool) (A:Option Addr) (m n c:Nat) (lv:List St.Lv) (z:Int) (aA aA':Option Addr) (ak ac ak' ac':Nat) (w:World) (h:LvAt w A m n lv) (hv:VL up n lv) (hq:WQ w (z:Rat) aA ak ac aA' ak' ac') (h0:0≤z) (h1:totI lv<z) (h2:z≤1000000000000) :
  Calls Tryz.prog 31 #[.slice A m c,.agg #[.bool (decide (((z:Int):Rat).num<0)),.slice aA ak ac,.bool false,.slice aA' ak' ac']] w fun e w'=>e=.returned (.tuple #[.slice none 0 0,.int .i64 1])∧Below w.heap.size w w':=by
 have HF0:=Hj (fun W (hW:Below w.heap.size w W)=>fill_over 4611686018427387904 1152921504606846976 2 wok_small (by omega) (by omega) (by omega) (by omega) (by omega) (by omega) (by omega) up A m n c lv _ false aA aA' ak ac ak' ac' (z:Rat) W (h.below hW) ((hq.below hW).at (by rw [Rat.num_intCast];omega) (by rw [Rat.den_intCast];omega)) hv (by exact_mod_cast h0) (by exact_mod_cast h1));generalize ((z:Int):Rat)=zq at *;clear h hv hq h0 h1 h2;go_enter Tryz.func31,Tryz.ntmps31
 go_wp2_with fail
 obtain ⟨hB0,hBW,hsz⟩:=pre1 w 42 #[.bool (decide (zq.num<0)),.slice aA ak ac,.bool false,.slice aA' ak' ac'];generalize w.alloc (.cells #[.bool (decide (zq.num<0)),.slice aA ak ac,.bool false,.slice aA' ak' ac'] 42)=W at *;have HSZ:=Hj hsz;clear hsz;refine (HF0.out W hBW).mono ?_;rintro e w1 ⟨rfl,hb1⟩;have HB1:=Hj (hBW.trans (hb1.mono hBW.size));clear hb1 hBW;go_wp2;go_ret2;exact ⟨rfl,HB1.out⟩
theorem share_nil (up:Bool) (A:Option Addr) (n c:Nat) (aA aA':Option Addr) (ak ac ak' ac':Nat) (w:World) (hn:n≤16) (hq:WQ w ((0:Int):Rat) aA ak ac aA' ak' ac') :
  Calls Tryz.prog 31 #[.slice A 0 c,.agg #[.bool (decide (((0:Int):Rat).num<0)),.slice aA ak ac,.bool false,.slice aA' ak' ac']] w fun e w'=>e=.returned (.tuple #[.slice none 0 0,.int .i64 0])∧Below w.heap.size w w':=by
 have hl:LvAt w A 0 n []:=⟨rfl,fun h=>absurd rfl h⟩;have hv:VL up n []:=⟨by simp,by simp,hn,by simp,by simp,by simp,by simp⟩;have HF0:=Hj (fun W (hW:Below w.heap.size w W)=>fill_ok 4611686018427387904 1152921504606846976 2 wok_small (by omega) (by omega) (by omega) (by omega) (by omega) (by omega) (by omega) up A 0 n c [] _ false aA aA' ak ac ak' ac' ((0:Int):Rat) W (hl.below hW) ((hq.below hW).at (by rw [Rat.num_intCast];omega) (by rw [Rat.den_intCast];omega)) hv (by exact_mod_cast Int.le_refl 0) (Rat.le_refl));generalize ((0:Int):Rat)=zq at *;clear hl hv hq;go_enter Tryz.func31,Tryz.ntmps31
 go_wp2_with fail
 obtain ⟨hB0,hBW,hsz⟩:=pre1 w 42 #[.bool (decide (zq.num<0)),.slice aA ak ac,.bool false,.slice aA' ak' ac'];generalize w.alloc (.cells #[.bool (decide (zq.num<0)),.slice aA ak ac,.bool false,.slice aA' ak' ac'] 42)=W at *;have HSZ:=Hj hsz;clear hsz;refine (HF0.out W hBW).mono ?_;rintro e w1 ⟨gt,ts,rfl,-,-,-,hb1⟩;have HB1:=Hj (hBW.trans (hb1.mono hBW.size));clear hb1 hBW;go_wp2;go_ret2;exact ⟨rfl,HB1.out⟩
theorem level_any (p q:Int) (A:Option Addr) (n c:Nat) (w:World) :
  Calls Tryz.prog 35 #[.int .i64 p,.int .i64 q,.slice A n c] w fun e w'=>e=.returned (.agg #[.int .i64 p,.int .i64 q,.slice A n c])∧Below w.heap.size w w':=by
 go_enter Tryz.func35,Tryz.ntmps35;have hB:=Blk.new w 64 #[.int .i64 p,.int .i64 q,.slice A n c];have c0:=hB.cell 0;have c1:=hB.cell 1;have c2:=hB.cell 2;simp at c0 c1 c2;go_wp2;refine bodyPost_ret (v:=.agg #[.int .i64 p,.int .i64 q,.slice A n c]) ?_ rfl ⟨rfl,(Below.refl _ _).alloc (Nat.le_refl _) _⟩;simp [results,Tryz.results35,go_sem,c0,c1,c2]
theorem shares_yes (up:Bool) (A R:Option Addr) (m n c rc:Nat) (lv:List St.Lv) (z cost:Int) (w:World) (h:LvAt w A m n lv) (hv:VL up n lv) (h0:0≤z) (h1:z≤totI lv) (hm0:m≠0) (hr:IsAt w R n (shAll lv n z m)) (hc:cost=costI (lvQ lv) z m) (hcb:Fits cost) (hyb:∀ y∈shAll lv n z m,Fits y) :
  Calls Tryz.prog 64 #[.slice A m c,.int .i64 z,.int .i64 cost,.slice R n rc] w fun e w'=>e=.returned (.bool true)∧Below w.heap.size w w':=by
 have hzb:=(tot_bd lv hv.qty).2;have hl48:=hv.len;have hll:=h.1;have T1:=Hj (fun (x:Int) (hx1 : -9223372036854775808≤x) (hx2:x≤9223372036854775807) W=>rint_any x W hx1 hx2);have T2:=Hj (fun W (hW:Below w.heap.size w W) aA aA' ak ac ak' ac' hq=>share_ok up A m n c lv z aA aA' ak ac ak' ac' W (h.below hW) hv hq h0 h1 hm0);have T3:=Hj (fun W (hW:Below w.heap.size w W) aA aA' ak ac ak' ac' hq=>kcost_whole up A m n c lv z aA aA' ak ac ak' ac' W (h.below hW) hv hq h0 h1);have HX:=Hj hr;have hz1 : -9223372036854775808≤z:=by omega
 have hz2:z≤9223372036854775807:=by omega
 have HZ:=Hj (And.intro hz1 hz2);have HCO:=Hj hc;have HFC:=Hj (And.intro hcb hyb);have hn16:=hv.n16;clear hzb hl48 hll h hv h0 h1 hr hz1 hz2 hc hcb hyb;go_enter Tryz.func64,Tryz.ntmps64
 go_wp2_with fail
 refine (T1.out z HZ.out.1 HZ.out.2 w).mono ?_;rintro e w1 ⟨A1,k1,c1,A2,k2,c2,rfl,hk1,hk2,hW1,hW2,-,-,hb1⟩
 go_wp2_with fail
 refine (T2.out w1 hb1 A1 A2 k1 c1 k2 c2 ⟨hk1,hk2,hW1,hW2⟩).mono ?_;rintro e w2 ⟨g,rfl,hQ2,hg,hb2⟩;have hB2:Below w.heap.size w w2:=hb1.trans (hb2.mono hb1.size);have HQ2:=Hj hQ2;clear hb1 hb2 hW1 hW2 hk1 hk2 hQ2
 go_wp2_with fail
 refine (T1.out z HZ.out.1 HZ.out.2 w2).mono ?_;rintro e w3 ⟨A1,k1,c1,A2,k2,c2,rfl,hk1,hk2,hW1,hW2,-,-,hb3⟩;have hB3:=hB2.trans (hb3.mono hB2.size);have HQ3:=Hj (HQ2.out.at.below hb3);clear HQ2 hB2 hb3
 go_wp2_with fail
 refine (T3.out w3 hB3 A1 A2 k1 c1 k2 c2 ⟨hk1,hk2,hW1,hW2⟩).mono ?_;rintro e w4 ⟨A5,k5,c5,A6,k6,c6,rfl,hC,hb4⟩;have hB4:=hB3.trans (hb4.mono hB3.size);have HQ4:=Hj (HQ3.out.below hb4);clear HQ3 hB3 hb4 hW1 hW2 hk1 hk2;obtain ⟨hC1,hC2,hC3,hC4,-,-⟩:=hC;generalize hcq:((costI (lvQ lv) z m:Int):Rat)=cq at *;have HC:=Hj (show WQ w4 cq A5 k5 c5 A6 k6 c6 from ⟨hC1,hC2,hC3,hC4⟩);have HCQ:=Hj (show ((cost:Int):Rat)=cq by rw [HCO.out];exact hcq);clear hC1 hC2 hC3 hC4 hcq HCO T2 T3
 go_wp2_with fail
 have hBx:=Blk.new w4 42 #[.bool (decide (cq.num<0)),.slice A5 k5 c5,.bool false,.slice A6 k6 c6];have k4:=(Kp.refl w4).alloc (.cells #[.bool (decide (cq.num<0)),.slice A5 k5 c5,.bool false,.slice A6 k6 c6] 42);have HQ5:=Hj (HQ4.out.below k4);have HC5:=Hj (HC.out.below k4);have hB5:=hB4.trans (Below.mono k4 hB4.size);generalize hbx:w4.heap.size=bx at *;generalize w4.alloc (.cells #[.bool (decide (cq.num<0)),.slice A5 k5 c5,.bool false,.slice A6 k6 c6] 42)=W at *;clear k4 HQ4 HC hB4 hbx;have HBX:=Hj hBx;have HB5:=Hj hB5;obtain ⟨ii,hii,hz0,hz1,hz2⟩:=info_parts info_q;have HI:=Hj hii;have HZ0:=Hj hz0;have HZ1:=Hj hz1;have HZ2:=Hj hz2;clear hBx hB5 hii hz0 hz1 hz2;generalize hys:shAll lv n z m=ys at *
 go_loopw [13,14] (fun th t wr=>∃ (i:Nat) (Ah:Option Addr) (ch:Nat) (es:List QEnt),i≤n∧t=.int .i64 (i:Int)∧th=.slice Ah i ch∧Hid (Kp W wr∧Own W.heap.size 42 4 wr Ah i ch (qCells es)∧QEnts Ah (castR ys) wr i es)) (fun _ t _=>n-(intOf t).toNat)
 case atStart=>exact ⟨0,none,0,[],Nat.zero_le _,rfl,rfl,Kp.refl _,Own.nil _ _ _ _,QEnts.start⟩
 case round =>
  obtain ⟨i,Ah,ch,es,hi,rfl,rfl,hR⟩:=hrel;by_cases hlt:i<n
  ·obtain ⟨hB,hO,hE⟩:=hR.out;obtain ⟨gr,or,rfl,hb,hcl⟩:=HX.out.2 (by omega);have hl:ys.length=n:=HX.out.1;have hcell:=(hB.cell (p:=⟨gr,or+i,none⟩) (Nat.lt_of_lt_of_le hb HB5.out.size)).trans ((HB5.out.cell (p:=⟨gr,or+i,none⟩) hb).trans (hcl i hlt));have hfy:=HFC.out.2 _ (getD_mem (d:=0) (show i<ys.length by omega));have HEI:=Hj (castR_get ys i);have i1:(0:Int)≤(i:Int):=by omega
   have i2:(i:Int)<(n:Int):=by omega
   generalize ys[i]?.getD 0=y at *;have HFY:=Hj hfy;have HR:=Hj (And.intro hB (And.intro hO hE));clear hcl hB hO hE hR hfy hb
   go_wp2_with fail
   refine (T1.out y (by have:=HFY.out.1;omega) (by have:=HFY.out.2;omega) wr).mono ?_;rintro e v1 ⟨A1,k1,c1,A2,k2,c2,rfl,hk1,hk2,hW1,hW2,hF1,hF2,hb1⟩;generalize ((y:Int):Rat)=yq at *;have HW:=Hj (And.intro (show WQ v1 yq A1 k1 c1 A2 k2 c2 from ⟨hk1,hk2,hW1,hW2⟩) (And.intro hF1 hF2));have HB1:=Hj hb1;clear hk1 hk2 hW1 hW2 hF1 hF2 hb1 hcell;have hO1:=(HR.out.2.1.keep HB1.out).keep ((Kp.refl v1).alloc (.cells #[.bool (decide (yq.num<0)),.slice A1 k1 c1,.bool false,.slice A2 k2 c2] 42));have m1:=Blk.new v1 42 #[.bool (decide (yq.num<0)),.slice A1 k1 c1,.bool false,.slice A2 k2 c2];have s1:Kp W (v1.alloc (.cells #[.bool (decide (yq.num<0)),.slice A1 k1 c1,.bool false,.slice A2 k2 c2] 42)):=Kp.alloc (Below.trans HR.out.1 (Below.mono HB1.out (Below.size HR.out.1))) _
   go_wp2_with (first
    | (at_builtin;refine wpList_append_at rfl (base:=W.heap.size) (e:=42) (size:=4) (bytes:=64) (.tmp 35) (.tmp 41) 46 rfl Tryz.underlying46 HI.out HZ0.out HZ1.out HZ2.out rfl (by decide) (xs:=qCells es) (news:=[.bool (decide (yq.num<0)),.slice A1 k1 c1,.bool false,.slice A2 k2 c2]) rfl (by exact hO1) rfl (by exact Blk.src m1 rfl (qCells_one [(decide (yq.num<0),(A1,k1,c1),(A2,k2,c2))])) (by simp only [maxLen];omega) (by omega) (by exact Below.size s1) ?_
       intro B2 cb2 w2' hO2 hb2 hk2 hs2;have HP:=Hj (And.intro hO2 (And.intro hb2 (And.intro hk2 hs2)));clear hO2 hb2 hk2 hs2))
   have hfin:Kp W w2'∧Own W.heap.size 42 4 w2' B2 (i+1) cb2 (qCells (es ++ [(decide (yq.num<0),(A1,k1,c1),(A2,k2,c2))]))∧QEnts B2 (castR ys) w2' (i+1) (es ++ [(decide (yq.num<0),(A1,k1,c1),(A2,k2,c2))]):=by
    obtain ⟨hO2,hb2,hk2,hs2⟩:=HP.out;refine ⟨Below.trans s1 hb2,by rw [qCells_append];exact hO2,?_⟩;have hlt2:=HR.out.2.1.blk_lt;have he1:=(HR.out.2.2.below HB1.out).snoc (by rw [HEI.out]) (by rw [HEI.out];exact HW.out.1) (Off.fresh HW.out.2.1 hlt2) (Off.fresh HW.out.2.2 hlt2);exact (he1.below ((Kp.refl v1).alloc _)).app hk2 hs2
   have HF:=Hj hfin;clear hfin HP hO1 m1 s1;go_wp2;go_roundw
   case rel=>exact ⟨i+1,B2,cb2,_,by omega,by go_num,rfl,HF.out⟩
   case measure=>simp [intOf];omega
  ·obtain rfl:i=n:=by omega
   obtain ⟨hB,hO,hE⟩:=hR.out;have hl:ys.length=i:=HX.out.1;have hys2:=hO.qs (by simp [castR,hl]) hE;have T4:=Hj (fun Wn (hW:Kp wr Wn)=>rrows_yes _ _ i i ch (castR ys) Wn ((HQ5.out.below hB).below hW) (hys2.below hW) (by omega) (by
    intro p hp;obtain ⟨y,hy,rfl⟩:=List.mem_map.1 hp;have hf:=HFC.out.2 y hy;unfold Fits at hf;rw [Rat.num_intCast,Rat.den_intCast];have:=len_le_two (m:=y.natAbs) (by omega);exact ⟨by omega,by simp [denW]⟩))
   have T5:∀ Wn,Kp wr Wn→Calls Tryz.prog 37 #[.int .i64 cost] Wn (RetQ Wn cq):=fun Wn _=>by
    have:=T1.out cost HFC.out.1.1 HFC.out.1.2 Wn
    rwa [HCQ.out] at this
   have T5:=Hj T5;have hsz:(digs cq.num.natAbs).length≤1000000∧(denW cq.den).length≤1000000:=by
    have hf:=HFC.out.1;unfold Fits at hf;rw [← HCQ.out,Rat.num_intCast,Rat.den_intCast];have:=len_le_two (m:=cost.natAbs) (by omega);exact ⟨by omega,by simp [denW]⟩
   have T6:∀ Wn,Kp wr Wn→∀ B1 j1 d1 B2 j2 d2,WQ Wn cq B1 j1 d1 B2 j2 d2→Calls Tryz.prog 34 #[.agg #[.bool (decide (cq.num<0)),.slice A5 k5 c5,.bool false,.slice A6 k6 c6],.agg #[.bool (decide (cq.num<0)),.slice B1 j1 d1,.bool false,.slice B2 j2 d2]] Wn fun e w'=>e=.returned (.bool true)∧Below Wn.heap.size Wn w':=fun Wn hW B1 j1 d1 B2 j2 d2 hq=>by
    have hc:=(HC5.out.below hB).below hW;obtain rfl:j1=k5:=by rw [hq.2.2.1.len,hc.2.2.1.len]
    obtain rfl:j2=k6:=by rw [hq.2.2.2.len,hc.2.2.2.len]
    exact ris_yes cq A5 B1 A6 B2 j1 c5 j2 c6 d1 d2 Wn hc hq (by rw [hc.2.2.1.len];exact hsz.1) (by rw [hc.2.2.2.len];exact hsz.2)
   have T6:=Hj T6;have hbx:=HBX.out.below hB HBX.out.lt;have HBW:=Hj (show Below w.heap.size w wr from HB5.out.trans (Below.mono hB HB5.out.size));have s5:=Kp.refl wr;clear hR hB hO hE hys2 hsz HBX HB5 HC5 HQ5 T1
   go_wp2_with fail
   have hS:∀ w',Kp wr w'→(w'.cell? ⟨bx,0,none⟩=some (.bool (decide (cq.num<0)))∧w'.cell? ⟨bx,1,none⟩=some (.slice A5 k5 c5)∧w'.cell? ⟨bx,2,none⟩=some (.bool false)∧w'.cell? ⟨bx,3,none⟩=some (.slice A6 k6 c6))∧Kp wr w':=fun w' hk=>⟨⟨(hk.blk hbx).cell 0,(hk.blk hbx).cell 1,(hk.blk hbx).cell 2,(hk.blk hbx).cell 3⟩,hk⟩;have HS:=Hj hS;clear hS
   go_region_held3 (fun w'=>(w'.cell? ⟨bx,0,none⟩=some (.bool (decide (cq.num<0)))∧w'.cell? ⟨bx,1,none⟩=some (.slice A5 k5 c5)∧w'.cell? ⟨bx,2,none⟩=some (.bool false)∧w'.cell? ⟨bx,3,none⟩=some (.slice A6 k6 c6))∧Kp wr w')
    (with_reducible first|(refine HS.out _ ?_;assumption)|(refine HS.out _ (Kp.drew ?_);assumption)|(refine' HS.out _ (Kp.drew (And.right ?_));rotate_left;assumption))
    (first
     | (go_at_call 37;have hk:=And.right ‹_∧Kp wr _›;refine (T5.out _ hk).mono ?_;rintro e v1 ⟨B1,j1,d1,B2,j2,d2,rfl,hj1,hj2,hV1,hV2,-,-,hb1⟩;have hr1:=hk.trans hb1;have HV:=Hj (show WQ v1 cq B1 j1 d1 B2 j2 d2 from ⟨hj1,hj2,hV1,hV2⟩);clear hb1 hj1 hj2 hV1 hV2)
     | (go_at_call 34;have hk:=And.right ‹_∧Kp wr _›;refine (T6.out _ hk _ _ _ _ _ _ HV.out).mono ?_;rintro e v2 ⟨rfl,hb2⟩;have hr2:=hk.trans hb2;clear hb2)
     | (go_at_call 33;have hk:=And.right ‹_∧Kp wr _›;refine (T4.out _ hk).mono ?_;rintro e v3 ⟨rfl,hb3⟩;have hr3:=hk.trans hb3;clear hb3))
   have HF:=Hj (HBW.out.trans (Below.mono hr3 HBW.out.size));clear hr1 hr2 hr3;go_wp2;go_ret;exact ⟨rfl,HF.out⟩
abbrev Ent:=Int×Int×Option Addr×Nat
def eCells (n:Nat) (es:List Ent):List Value:=es.flatMap fun e=>[.int .i64 e.1,.int .i64 e.2.1,.slice e.2.2.1 n e.2.2.2]
theorem eCells_append (n:Nat) (a b:List Ent):eCells n (a ++ b)=eCells n a ++ eCells n b:=by simp [eCells]
theorem eCells_len (n:Nat) (l:List Ent):(eCells n l).length=l.length*3:=by
 induction l with
 | nil=>rfl
 | cons s l ih =>
  have:eCells n (s :: l)=[.int .i64 s.1,.int .i64 s.2.1,.slice s.2.2.1 n s.2.2.2] ++ eCells n l:=by simp [eCells]
  rw [this,List.length_append,ih];simp;omega
def Ent0:Ent:=(0,0,none,0)
theorem eCells_get (n:Nat):∀ (l:List Ent) (j:Nat),j<l.length→(eCells n l)[j*3]?=some (.int .i64 (l[j]?.getD Ent0).1)∧(eCells n l)[j*3+1]?=some (.int .i64 (l[j]?.getD Ent0).2.1)∧(eCells n l)[j*3+2]?=some (.slice (l[j]?.getD Ent0).2.2.1 n (l[j]?.getD Ent0).2.2.2)
 | [],j,h=>absurd h (by simp)
 | s :: l,0,_=>by simp [eCells]
 | s :: l,j+1,h=>by
  have e:eCells n (s :: l)=.int .i64 s.1 :: .int .i64 s.2.1 :: .slice s.2.2.1 n s.2.2.2 :: eCells n l:=by simp [eCells]
  have ih:=eCells_get n l j (by simpa using h);rw [e,show (j+1)*3=j*3+1+1+1 by omega,show j*3+1+1+1+1=(j*3+1)+1+1+1 by omega,show j*3+1+1+1+2=(j*3+2)+1+1+1 by omega];simp only [List.getElem?_cons_succ];exact ih
theorem eCells_one (n:Nat) (l:List Ent):∀ u∈eCells n l,u.oneCell'=true:=by
 intro u hu;obtain ⟨s,_,h⟩:=List.mem_flatMap.1 hu;simp at h;rcases h with rfl|rfl|rfl<;>rfl
theorem Own.low {base base':Nat} {e:TypeId} {size:Nat} {w:World} {A:Option Addr} {n c:Nat} {xs:List Value} (h:Own base e size w A n c xs) (hb:base'≤base):Own base' e size w A n c xs:=by
 refine ⟨h.1,?_⟩;rcases h.2 with h2|⟨g,cap,cur,h2,h3,h4⟩
 ·exact Or.inl h2
 ·exact Or.inr ⟨g,cap,cur,h2,Nat.le_trans hb h3,h4⟩
def EntsO (base n:Nat) (lv:List St.Lv) (w:World) (i:Nat) (es:List Ent):Prop :=
 es.length=i∧∀ j,j<i→(es[j]?.getD Ent0).1=(lv[j]?.getD Lv0).1∧(es[j]?.getD Ent0).2.1=(lv[j]?.getD Lv0).2.1∧Own base 2 1 w (es[j]?.getD Ent0).2.2.1 n (es[j]?.getD Ent0).2.2.2 ((lv[j]?.getD Lv0).2.2.map (Value.int .i64))
theorem Own.levels {base:Nat} {e:TypeId} {w:World} {A:Option Addr} {m n c:Nat} {es:List Ent} {lv:List St.Lv} (h:Own base e 3 w A m c (eCells n es)) (hl:lv.length=m) (he:EntsO base n lv w m es):LvAt w A m n lv:=by
 refine ⟨hl,fun hn=>?_⟩;have hel:=he.1;have hcl:=eCells_len n es;obtain ⟨g,cap,hv,hb,hlt⟩:=World.ownsRow.form h (by omega);simp at hv;obtain ⟨rfl,rfl⟩:=hv;refine ⟨g,0,rfl,hlt,fun j hj=>?_⟩;obtain ⟨g1,g2,g3⟩:=eCells_get n es j (by omega);obtain ⟨e1,e2,e3⟩:=he.2 j hj;rw [Nat.zero_add,World.ownsRow.cellAt h (j*3) (by omega),World.ownsRow.cellAt h (j*3+1) (by omega),World.ownsRow.cellAt h (j*3+2) (by omega),g1,g2,g3,e1,e2];exact ⟨_,_,⟨rfl,rfl,rfl⟩,e3.ints⟩
theorem EntsO.below {base n:Nat} {lv:List St.Lv} {w w':World} {i:Nat} {es:List Ent} (h:EntsO base n lv w i es) (hb:Below w.heap.size w w'):EntsO base n lv w' i es :=
 ⟨h.1,fun j hj=>⟨(h.2 j hj).1,(h.2 j hj).2.1,(h.2 j hj).2.2.keep hb⟩⟩
theorem EntsO.far {base base' n m d:Nat} {lv:List St.Lv} {w w':World} {i:Nat} {es:List Ent} {B:Option Addr} {e':TypeId} {size':Nat} {ys:List Value} (h:EntsO base n lv w i es) (h':Own base' e' size' w B m d ys) (hne:2≠e') (hk:Kept w w' B):EntsO base n lv w' i es :=
 ⟨h.1,fun j hj=>⟨(h.2 j hj).1,(h.2 j hj).2.1,(h.2 j hj).2.2.far h' hne hk⟩⟩
theorem EntsO.snoc {base n:Nat} {lv:List St.Lv} {w:World} {i:Nat} {es:List Ent} {x:Ent} (h:EntsO base n lv w i es) (h1:x.1=(lv[i]?.getD Lv0).1) (h2:x.2.1=(lv[i]?.getD Lv0).2.1) (h3:Own base 2 1 w x.2.2.1 n x.2.2.2 ((lv[i]?.getD Lv0).2.2.map (Value.int .i64))):EntsO base n lv w (i+1) (es ++ [x]):=by
 have hl:=h.1;refine ⟨by simp [hl],fun j hj=>?_⟩;by_cases hji:j<i
 ·rw [List.getElem?_append_left (by omega)];exact h.2 j hji
 ·obtain rfl:j=i:=by omega
  rw [List.getElem?_append_right (by omega),hl,Nat.sub_self];exact ⟨h1,h2,h3⟩
theorem info_rlevel:(Tryz.prog.info? 105).map (fun i=>(i.zero,i.size,i.bytes))=some (some (.agg #[.int .i64 0,.int .i64 0,.slice none 0 0]),3,40):=by kernel_rfl
theorem told_any (A:Option Addr) (m n c:Nat) (lv:List St.Lv) (w:World) (h:LvAt w A m n lv) (hm:m≤1000000) (hn:n≤1000000) :
  Calls Tryz.prog 19 #[.slice A m c] w fun e w'=>∃ A1 c1,e=.returned (.slice A1 m c1)∧LvAt w' A1 m n lv∧Below w.heap.size w w':=by
 have HX:=Hj h;obtain ⟨ii,hii,hz0,hz1,hz2⟩:=info_parts info_rlevel;have HI:=Hj hii;have HZ0:=Hj hz0;have HZ1:=Hj hz1;have HZ2:=Hj hz2;obtain ⟨ji,hji,jz0,jz1,jz2⟩:=info_parts info_int64;have JI:=Hj hji;have JZ0:=Hj jz0;have JZ1:=Hj jz1;have JZ2:=Hj jz2;clear h hii hz0 hz1 hz2 hji jz0 jz1 jz2;go_enter Tryz.func19,Tryz.ntmps19
 go_wp2_with fail
 go_loopw [3,4] (fun th t wr=>∃ (i:Nat) (Ah:Option Addr) (ch:Nat) (es:List Ent),i≤m∧t=.int .i64 (i:Int)∧th=.slice Ah i ch∧Hid (Below w.heap.size w wr∧Own w.heap.size 105 3 wr Ah i ch (eCells n es)∧EntsO w.heap.size n lv wr i es)) (fun _ t _=>m-(intOf t).toNat)
 case atStart=>exact ⟨0,none,0,[],Nat.zero_le _,rfl,rfl,Below.refl _ _,Own.nil _ _ _ _,rfl,fun j hj=>absurd hj (by omega)⟩
 case round =>
  obtain ⟨i,Ah,ch,es,hi,rfl,rfl,hR⟩:=hrel;by_cases hlt:i<m
  ·obtain ⟨hB,hO,hE⟩:=hR.out;obtain ⟨b,o,rfl,hb,hc⟩:=HX.out.2 (by omega);obtain ⟨A',c',⟨e0,e1,e2⟩,hp⟩:=hc i hlt;have i1:(0:Int)≤(i:Int):=by omega
   have i2:(i:Int)<(m:Int):=by omega
   have hxe:lv[i]?.getD Lv0=((lv[i]?.getD Lv0).1,(lv[i]?.getD Lv0).2.1,(lv[i]?.getD Lv0).2.2):=rfl;generalize (lv[i]?.getD Lv0).1=pz at *;generalize (lv[i]?.getD Lv0).2.1=qz at *;generalize (lv[i]?.getD Lv0).2.2=xs at *;have HXE:=Hj hxe;have hS:∀ w',Below w.heap.size w w'→(w'.cell? ⟨b,o+i*3,none⟩=some (.int .i64 pz)∧w'.cell? ⟨b,o+i*3+1,none⟩=some (.int .i64 qz)∧w'.cell? ⟨b,o+i*3+2,none⟩=some (.slice A' n c'))∧Below w.heap.size w w':=fun w' hk=>⟨⟨(hk.cell (p:=⟨b,_,none⟩) hb).trans e0,(hk.cell (p:=⟨b,_,none⟩) hb).trans e1,(hk.cell (p:=⟨b,_,none⟩) hb).trans e2⟩,hk⟩;have HS:=Hj hS;have q0:=hB;have k0:=(Kp.refl wr).alloc (.cells #[] 2);have q1:Below w.heap.size w (wr.alloc (.cells #[] 2)):=hB.trans (Below.mono k0 hB.size);have o1:Own wr.heap.size 2 1 (wr.alloc (.cells #[] 2)) (some ⟨wr.heap.size,0,none⟩) 0 0 []:=Own.made wr (Nat.le_refl _);have HSR:=Hj (fun W (hW:Below w.heap.size w W)=>(hp.below hW).src);have HRR:=Hj (And.intro hO hE);have him:i≤1000000:=by omega
   clear hc hR hS hxe e0 e1 e2 hp hO hE
   go_wp2_with fail
   go_region_held3 (fun w'=>(w'.cell? ⟨b,o+i*3,none⟩=some (.int .i64 pz)∧w'.cell? ⟨b,o+i*3+1,none⟩=some (.int .i64 qz)∧w'.cell? ⟨b,o+i*3+2,none⟩=some (.slice A' n c'))∧Below w.heap.size w w')
    (first|exact HS.out _ g2|exact HS.out _ g3|exact HS.out _ g1|exact HS.out _ q0.drew|exact HS.out _ q1.drew)
    (first
     | (refine step_append_my (base:=wr.heap.size) (e:=2) (size:=1) (bytes:=8) (by rfl) (.tmp 22) (.tmp 27) 62 rfl Tryz.underlying62 JI.out JZ0.out JZ1.out JZ2.out rfl (by decide) (xs:=[]) (news:=xs.map (Value.int .i64)) rfl (by exact o1) rfl (HSR.out _ (by exact q1.drew)) (by simp only [maxLen];omega) (by omega) (Below.size (w:=wr) (B:=wr.heap.size) (by exact k0.drew)) ?_
        intro B1 cb1 w1 hO1 hb1 hk1;have k1:Kp wr w1:=Below.trans (by exact k0.drew) hb1;have g1:Below w.heap.size w w1:=q0.trans (Below.mono k1 q0.size);simp only [Nat.zero_add,List.nil_append] at hO1 ⊢;have a2:Kp w1 (w1.alloc (.cells #[.int .i64 pz,.int .i64 qz,.slice B1 n cb1] 105)):=(Kp.refl w1).alloc _;have g2:Below w.heap.size w (w1.alloc (.cells #[.int .i64 pz,.int .i64 qz,.slice B1 n cb1] 105)):=g1.trans (Below.mono a2 g1.size);have o2:=(HRR.out.1.keep k1).keep a2;have m2:=Blk.new w1 105 #[.int .i64 pz,.int .i64 qz,.slice B1 n cb1];clear hb1 hk1)
     | (refine step_append_my (base:=w.heap.size) (e:=105) (size:=3) (bytes:=40) (by rfl) (.tmp 11) (.tmp 30) 25 rfl Tryz.underlying25 HI.out HZ0.out HZ1.out HZ2.out rfl (by decide) (xs:=eCells n es) (news:=[.int .i64 pz,.int .i64 qz,.slice B1 n cb1]) rfl (by exact o2) rfl (by exact Blk.src m2 rfl (eCells_one n [(pz,qz,B1,cb1)])) (by simp only [maxLen];omega) (by omega) (Below.size (w:=w) (B:=w.heap.size) (by exact g2)) ?_
        intro B2 cb2 w2 hO2 hb2 hk2;have g3:Below w.heap.size w w2:=Below.trans (by exact g2) hb2;have hk2':Kept (w1.alloc (.cells #[.int .i64 pz,.int .i64 qz,.slice B1 n cb1] 105)) w2 Ah:=hk2;clear hb2 hk2))
   have hfin:Below w.heap.size w w2∧Own w.heap.size 105 3 w2 B2 (i+1) cb2 (eCells n (es ++ [(pz,qz,B1,cb1)]))∧EntsO w.heap.size n lv w2 (i+1) (es ++ [(pz,qz,B1,cb1)]):=by
    refine ⟨g3,?_,?_⟩
    ·rw [eCells_append];exact hO2
    ·have he1:=(HRR.out.2.below k1).snoc (x:=(pz,qz,B1,cb1)) (by rw [HXE.out]) (by rw [HXE.out]) (by rw [HXE.out];exact hO1.low q0.size);exact (he1.below a2).far o2 (by decide) hk2'
   have HF:=Hj hfin;clear hfin g3 hO2 hk2' o2 m2 g2 a2 hO1 k1 g1;go_wp2;go_roundw
   case rel=>exact ⟨i+1,B2,cb2,_,by omega,by go_num,rfl,HF.out⟩
   case measure=>simp [intOf];omega
  ·obtain rfl:i=m:=by omega
   obtain ⟨hB,hO,hE⟩:=hR.out;have HF:=Hj (show LvAt wr Ah i n lv∧Below w.heap.size w wr from ⟨hO.levels HX.out.1 hE,hB⟩);clear hR hB hO hE;go_wp2;go_ret;exact ⟨Ah,ch,rfl,HF.out⟩
end Go.Proofs.YtjajigkacccdgaaGreat
namespace Go.Proofs.YtjajigkacccdgaaGreat
open Go.RowKit
open Go.Sort (HoldsK)
open Wd
theorem flw_ltU {up:Bool} {v p:Int} (h:flw up v p=true):St.ltU up v p:=by
 unfold flw at h;unfold St.ltU;cases up<;>simp at h ⊢<;>exact h
theorem chkFrom_mono {up:Bool}:∀ {l:List (Int×Int)} {v:Int},chkFrom up (some v) l=0→(∀ t∈l,St.ltU up v t.2)∧(l.map (·.2)).Pairwise (St.ltU up)
 | [],v,_=>⟨by simp,by simp⟩
 | (q, p) :: r,v,h=>by
  rw [chkFrom] at h;split at h
  ·simp at h
  ·split at h
   ·rename_i hf
    obtain ⟨i1,i2⟩:=chkFrom_mono h;have h1:=flw_ltU hf;refine ⟨fun t ht=>?_,?_⟩
    ·rcases List.mem_cons.1 ht with rfl|ht
     ·exact h1
     ·have h2:=i1 t ht;unfold St.ltU at *;split<;>rename_i hu<;>simp [hu] at h1 h2<;>omega
    ·rw [List.map_cons,List.pairwise_cons];refine ⟨fun x hx=>?_,i2⟩;obtain ⟨t,ht,rfl⟩:=List.mem_map.1 hx;exact i1 t ht
   ·simp at h
theorem chk_mono {up:Bool} {l:List (Int×Int)} (h:chk up l=0):(l.map (·.2)).Pairwise (St.ltU up):=by
 have h2:=(chk_ok h).2.2.1
 match l,h2 with
 | [],_=>simp
 | (q,p) :: r,h2 =>
  rw [chkFrom] at h2;split at h2
  ·simp at h2
  ·obtain ⟨i1,i2⟩:=chkFrom_mono h2;rw [List.map_cons,List.pairwise_cons];refine ⟨fun x hx=>?_,i2⟩;obtain ⟨t,ht,rfl⟩:=List.mem_map.1 hx;exact i1 t ht
namespace St
def atP (l:List (Int×Int)) (p:Int):Int :=
 match l with
 | []=>0
 | s :: r=>(if s.2=p then s.1 else 0)+atP r p
theorem atP_none:∀ {l:List (Int×Int)} {p:Int},(∀ s∈l,s.2≠p)→atP l p=0
 | [],_,_=>rfl
 | s :: r,p,h=>by rw [atP,if_neg (h s (List.mem_cons_self ..)),atP_none fun t ht=>h t (List.mem_cons_of_mem _ ht)];rfl
theorem atP_bd {up:Bool}:∀ {l:List (Int×Int)} {p:Int},(l.map (·.2)).Pairwise (ltU up)→(∀ s∈l,1≤s.1∧s.1≤1000000)→0≤atP l p∧atP l p≤1000000
 | [],_,_,_=>by simp [atP]
 | s :: r,p,hm,hb=>by
  rw [List.map_cons,List.pairwise_cons] at hm;have h1:=hb s (List.mem_cons_self ..);have ih:=atP_bd (p:=p) hm.2 fun t ht=>hb t (List.mem_cons_of_mem _ ht);rw [atP];split
  ·rename_i e
   rw [atP_none fun t ht e2=>?_]
   ·omega
   ·have:=hm.1 t.2 (List.mem_map.2 ⟨t,ht,rfl⟩);rw [e,e2] at this;exact ltU_irr this
  ·omega
theorem part_map (k:Nat):∀ (l:List (Int×Int)) (p:Int) (i:Nat),part (l.map fun s=>(k,s.1,s.2)) p i=if k=i then atP l p else 0
 | [],p,i=>by simp [part,atP]
 | s :: r,p,i=>by
  rw [List.map_cons,part,part_map k r p i,atP];by_cases h:k=i
  ·simp [h]
  ·simp [h]
theorem part_tri:∀ (ls:List (List (Int×Int))) (k:Nat) (p:Int) (i:Nat),part (tri k ls) p i=if k≤i then atP (ls[i-k]?.getD []) p else 0
 | [],k,p,i=>by simp [tri,part,atP]
 | l :: ls,k,p,i=>by
  rw [tri,part_app,part_map,part_tri ls (k+1) p i];by_cases h:k=i
  ·subst h;rw [if_pos rfl,if_neg (by omega),if_pos (Nat.le_refl _),Nat.sub_self];simp
  ·by_cases h2:k≤i
   ·rw [if_neg h,if_pos (by omega),if_pos h2,show i-k=(i-(k+1))+1 by omega,List.getElem?_cons_succ];omega
   ·rw [if_neg h,if_neg (by omega),if_neg h2]
    rfl
theorem qty_map (k:Nat):∀ (l:List (Int×Int)) (p:Int),qty (l.map fun s=>(k,s.1,s.2)) p=atP l p
 | [],p=>rfl
 | s :: r,p=>by rw [List.map_cons,qty,qty_map k r p,atP]
theorem qty_tri:∀ (ls:List (List (Int×Int))) (k:Nat) (p:Int),qty (tri k ls) p=sumI (ls.map fun l=>atP l p)
 | [],_,_=>rfl
 | l :: ls,k,p=>by rw [tri,qty_app,qty_map,qty_tri ls (k+1) p,List.map_cons,sumI]
theorem parts_tri (ls:List (List (Int×Int))) (p:Int):parts ls.length (tri 0 ls) p=ls.map fun l=>atP l p:=by
 refine ext_getD (by simp [parts]) fun i hi=>?_;have hi':i<ls.length:=by simpa [parts] using hi
 rw [parts_get hi',part_tri,if_pos (Nat.zero_le _),Nat.sub_zero,List.getElem?_map,List.getElem?_eq_getElem hi']
 rfl
theorem qty_pos:∀ {T:List Tr} {p:Int},(∀ t∈T,1≤t.2.1)→(∃ t∈T,t.2.2=p)→1≤qty T p
 | [],_,_,⟨t,ht,_⟩=>by simp at ht
 | x :: T,p,h,⟨t,ht,e⟩=>by
  have h1:=h x (List.mem_cons_self ..);have h0:∀ (S:List Tr),(∀ t∈S,1≤t.2.1)→0≤qty S p:=by
   intro S
   induction S with
   | nil=>intro _;simp [qty]
   | cons a S ih =>
    intro hS;have a1:=hS a (List.mem_cons_self ..);have a2:=ih fun t ht=>hS t (List.mem_cons_of_mem _ ht);rw [qty];split<;>omega
  rw [qty];rcases List.mem_cons.1 ht with rfl|ht
  ·rw [if_pos e];have:=h0 T fun t ht=>h t (List.mem_cons_of_mem _ ht);omega
  ·have:=qty_pos (fun t ht=>h t (List.mem_cons_of_mem _ ht)) ⟨t,ht,e⟩;split<;>omega
end St
def lvOf (n:Nat) (T:List St.Tr) (D:List (Int×Nat)):List St.Lv:=D.map fun d=>(d.1,St.qty T d.1,St.parts n T d.1)
theorem lvOf_is {up:Bool} {n:Nat} {T:List St.Tr} {D:List (Int×Nat)} (h1:(D.map (·.1)).Pairwise (St.ltU up)) (h2:(D.map (·.1)).Perm (St.pr T)):St.IsLv up n T (lvOf n T D):=by
 have e:(lvOf n T D).map (·.1)=D.map (·.1):=by unfold lvOf;rw [List.map_map];rfl
 refine ⟨by rw [e];exact h1,fun p=>?_,fun x hx=>?_⟩
 ·rw [e,h2.mem_iff,St.mem_pr]
 ·obtain ⟨d,_,rfl⟩:=List.mem_map.1 hx;exact ⟨rfl,rfl⟩
theorem lv_valid {up:Bool} {ls:List (List (Int×Int))} {lv:List St.Lv} (hc:(ckC up ls).2=0) (h:St.IsLv up ls.length (St.tri 0 ls) lv):VL up ls.length lv:=by
 obtain ⟨hn,hk,hg⟩:=ckC_good hc;obtain ⟨h1,h2,h3⟩:=h;have hb:∀ l∈ls,∀ s∈l,1≤s.1∧s.1≤1000000:=fun l hl s hs=>by
  have:=(hg l hl).2 s hs;unfold Bad at this;omega
 have hpt:∀ p,∀ y∈ls.map (fun l=>St.atP l p),0≤y∧y≤1000000:=fun p y hy=>by
  obtain ⟨l,hl,rfl⟩:=List.mem_map.1 hy;exact St.atP_bd (chk_mono (hk l hl)) (hb l hl)
 have hex:∀ x∈lv,∃ t∈St.tri 0 ls,t.2.2=x.1:=fun x hx=>(h2 x.1).1 (List.mem_map.2 ⟨x,hx,rfl⟩);have hlen:lv.length≤48:=by
  have hnd:(lv.map (·.1)).Nodup:=h1.imp fun {a b} hab e=>by subst e;exact St.ltU_irr hab
  have hsub:=hnd.length_le_of_subset (l₂:=St.pr (St.tri 0 ls)) fun p hp=>St.mem_pr.2 ((h2 p).1 hp);have a1:=St.pr_len (St.tri 0 ls);have a2:=St.tri_len ls 0 fun l hl=>(hg l hl).1;rw [List.length_map] at hsub;omega
 refine ⟨hlen,fun h0=>?_,hn,fun x hx=>?_,fun x hx=>?_,fun x hx=>?_,h1⟩
 ·cases lv with
  | nil=>simp at h0
  | cons x lv =>
   obtain ⟨t,ht,_⟩:=hex x (List.mem_cons_self ..);obtain ⟨l,hl,_⟩:=St.tri_mem ht;cases ls with
   | nil=>simp at hl
   | cons _ _=>simp
 ·obtain ⟨t,ht,e⟩:=hex x hx;obtain ⟨l,hl,hs,_⟩:=St.tri_mem ht;have:=(hg l hl).2 _ hs;unfold Bad at this;rw [← e];simp only at this;omega
 ·rw [(h3 x hx).2,St.parts_tri];exact ⟨by simp,hpt x.1⟩
 ·rw [(h3 x hx).1,(h3 x hx).2,St.parts_tri,← St.qty_tri ls 0 x.1];refine ⟨rfl,?_⟩;have:=St.qty_pos (T:=St.tri 0 ls) (p:=x.1) (fun t ht=>by
   obtain ⟨l,hl,hs,_⟩:=St.tri_mem ht;exact (hb l hl _ hs).1) (hex x hx)
  omega
theorem LvO.at {base n:Nat} {w:World} {mg:Nat} {T:List St.Tr} {D:List (Int×Nat)} (h:LvO base n w mg T D):LvAt w (some ⟨mg,0,none⟩) D.length n (lvOf n T D):=by
 obtain ⟨h1,h2,h3,h4,h5⟩:=h;refine ⟨by simp [lvOf],fun _=>⟨mg,0,rfl,h2,fun j hj=>?_⟩⟩;have hd:D[j]?.getD (0,0)∈D:=getD_mem hj;have eg:D.toArray[j]! = D[j]?.getD (0,0):=by simp [hj,List.getElem?_eq_getElem hj]
 have el:(lvOf n T D)[j]?.getD Lv0=((D[j]?.getD (0,0)).1,St.qty T (D[j]?.getD (0,0)).1,St.parts n T (D[j]?.getD (0,0)).1):=by
  unfold lvOf;rw [List.getElem?_map,List.getElem?_eq_getElem hj]
  rfl
 have c0:=(h3.cell (i:=j) (c:=0) (by simpa using hj) (by omega)).1;have c1:=(h3.cell (i:=j) (c:=1) (by simpa using hj) (by omega)).1;have c2:=(h3.cell (i:=j) (c:=2) (by simpa using hj) (by omega)).1;rw [eg,Nat.zero_add] at c0 c1 c2;rw [el,Nat.zero_add];exact ⟨_,_,⟨c0,c1,c2⟩,(h4 _ hd).2.2.at (St.parts_len _ _ _)⟩
end Go.Proofs.YtjajigkacccdgaaGreat
