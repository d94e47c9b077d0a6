/-
Lemmas of the walk; no further conditions.
-/
import Derived.Test.YtjajigkacccdgaaGreatTeBF
import Derived.Test.YtjajigkacccdgaaGreatTeBD
set_option linter.unusedVariables false
set_option linter.unusedSimpArgs false
set_option maxRecDepth 100000
set_option maxHeartbeats 16000000
namespace Go.Proofs.YtjajigkacccdgaaGreat
open Go.RowKit
open Wd
theorem rwants25_any (A B:Option Addr) (n c m d:Nat) (os bs:List (List (Int×Int))) (an an':Bool) (aA aA':Option Addr) (ak ac ak' ac':Nat) (q:Rat) (w:World) (h:CsAt w A n os) (h':CsAt w B m bs) (hq:QS 7 w an aA ak ac an' aA' ak' ac' q) (ho:∀ l∈os,chk true l=0) (hb:∀ l∈bs,chk false l=0) (hn:n≤1000) (hm:m≤1000) :
  Calls Tryz.prog 100 #[.slice A n c,.slice B m d,.agg #[.bool an,.slice aA ak ac,.bool an',.slice aA' ak' ac']] w fun e w'=>e=.returned (.tuple #[.int .i64 (wsL (-1) q os),.int .i64 (wsM (-1) q os),.int .i64 (wsL 1 q bs),.int .i64 (wsM 1 q bs)])∧Below w.heap.size w w':=by
 have HX:=Hj h;have HY:=Hj h';have HLN:=Hj h.1;have HMN:=Hj h'.1;have HQ:=Hj hq;have HCA:=Hj ho;have HCB:=Hj hb;clear h h' hq ho hb;go_enter Tryz.func100,Tryz.ntmps100
 go_wp2_with fail
 have hbx:=Blk.new w 42 #[.bool an,.slice aA ak ac,.bool an',.slice aA' ak' ac'];have hb0:Below w.heap.size w (w.alloc (.cells #[.bool an,.slice aA ak ac,.bool an',.slice aA' ak' ac'] 42)):=(Below.refl _ _).alloc (Nat.le_refl _) _;generalize w.alloc (.cells #[.bool an,.slice aA ak ac,.bool an',.slice aA' ak' ac'] 42)=W0 at *;have HST:=Hj (And.intro hb0 hbx);clear hb0 hbx
 go_loopw [10,11,14] (fun tl tm t wr=>∃ k:Nat,k≤n∧t=.int .i64 k∧tl=.int .i64 (wsL (-1) q (os.take k))∧tm=.int .i64 (wsM (-1) q (os.take k))∧Hid (Below w.heap.size w wr∧Blk wr w.heap.size 42 #[.bool an,.slice aA ak ac,.bool an',.slice aA' ak' ac'])) (fun _ _ t _=>n-(intOf t).toNat)
 case atStart=>exact ⟨0,Nat.zero_le _,rfl,rfl,rfl,HST.out⟩
 case round =>
  obtain ⟨k,hk,rfl,rfl,rfl,hR⟩:=hrel;obtain ⟨wz,rfl⟩:∃ u,u=wr:=⟨_,rfl⟩;by_cases hlt:k<n
  ·obtain ⟨b,o,rfl,hb,hc⟩:=HX.out.2 (by omega);obtain ⟨A',n',c',hcell,hst⟩:=hc k hlt;obtain ⟨hBW,hBX⟩:=hR.out;have hcl:=(hBW.cell (p:=⟨b,o+k,none⟩) hb).trans hcell;have hbr:b<wz.heap.size:=Nat.lt_of_lt_of_le hb hBW.size;have hkl:k<os.length:=by rw [HLN.out];exact hlt
   have hmem:=getD_mem (d:=([]:List (Int×Int))) hkl;have hck:=HCA.out _ hmem;have HCT:=Hj (fun W (hW:Kp wz W)=>rsupplyAt_any A' n' c' (os[k]?.getD []) an an' aA aA' ak ac ak' ac' q W (hst.below (hBW.trans (Below.mono hW hBW.size))) (HQ.out.below (hBW.trans (Below.mono hW hBW.size))) hck);obtain ⟨s1,s2⟩:=ws_snoc (-1) q hkl;have bd:=ws_bd (fun l hl=>HCA.out l (List.mem_of_mem_take hl):∀ l∈os.take k,chk true l=0) (-1) q;have bd2:=wl_bd3 hck (-1) q;have hl2:=List.length_take_le k os;generalize wlL (-1) q (os[k]?.getD [])=xl at *;generalize wlM (-1) q (os[k]?.getD [])=xm at *;generalize wsL (-1) q (os.take k)=vl at *;generalize wsM (-1) q (os.take k)=vm at *;have wl1:IntKind.i64.wrap (vl+xl)=vl+xl:=IntWalk.i64_in _ (by omega);have wl2:IntKind.i64.wrap (vm+xm)=vm+xm:=IntWalk.i64_in _ (by omega);have k1:(0:Int)≤(k:Int):=by omega
   have k2:(k:Int)<(n:Int):=by omega
   have HS1:=Hj s1;have HS2:=Hj s2;have HR:=Hj hR.out;have HS:=Hj (show ∀ w',Kp wz w'→(w'.cell? ⟨b,o+k,none⟩=some (.slice A' n' c')∧w'.cell? ⟨w.heap.size,0,none⟩=some (.bool an)∧w'.cell? ⟨w.heap.size,1,none⟩=some (.slice aA ak ac)∧w'.cell? ⟨w.heap.size,2,none⟩=some (.bool an')∧w'.cell? ⟨w.heap.size,3,none⟩=some (.slice aA' ak' ac'))∧Kp wz w' from fun w' hk=>⟨⟨(Below.cell hk (p:=⟨b,o+k,none⟩) hbr).trans hcl,(Kp.blk hk hBX).cell 0,(Kp.blk hk hBX).cell 1,(Kp.blk hk hBX).cell 2,(Kp.blk hk hBX).cell 3⟩,hk⟩);have hk0:=Kp.refl wz;clear hc hcell hst hkl hmem hck s1 s2 bd bd2 hl2 hR hBW hBX hcl hbr hb
   go_wp2_with fail
   go_region_held3 (fun w'=>(w'.cell? ⟨b,o+k,none⟩=some (.slice A' n' c')∧w'.cell? ⟨w.heap.size,0,none⟩=some (.bool an)∧w'.cell? ⟨w.heap.size,1,none⟩=some (.slice aA ak ac)∧w'.cell? ⟨w.heap.size,2,none⟩=some (.bool an')∧w'.cell? ⟨w.heap.size,3,none⟩=some (.slice aA' ak' ac'))∧Kp wz w')
    (with_reducible first|(refine HS.out _ ?_;assumption)|(refine HS.out _ (Kp.drew ?_);assumption)|(refine' HS.out _ (Kp.drew (And.right _));rotate_left;assumption))
    (first
     | (go_at_call 146;have hk:=And.right ‹_∧Kp wz _›;refine (HCT.out _ hk).mono ?_;rintro e v1 ⟨rfl,hb1⟩;have hk2:=Kp.trans hk hb1;clear hb1))
   have HV1:=Hj (And.intro (HR.out.1.trans (Below.mono hk2 HR.out.1.size)) (Kp.blk hk2 HR.out.2));clear hk2 hk0 HCT HR HS;go_wp2;go_roundw
   case rel=>exact ⟨k+1,by omega,by go_num,by rw [HS1.out],by rw [HS2.out],HV1.out⟩
   case measure=>simp [intOf];omega
  ·obtain rfl:k=n:=by omega
   rw [List.take_of_length_le (by rw [HLN.out];exact Nat.le_refl _)];generalize hx1:wsL (-1) q os=x1 at *;generalize hx2:wsM (-1) q os=x2 at *;have HX1:=Hj hx1;have HX2:=Hj hx2;have HRA:=Hj hR.out;clear hR hx1 hx2
   go_wp2_with fail
   go_loopw [12,13,18] (fun tl tm t wr=>∃ k:Nat,k≤m∧t=.int .i64 k∧tl=.int .i64 (wsL (1) q (bs.take k))∧tm=.int .i64 (wsM (1) q (bs.take k))∧Hid (Below w.heap.size w wr∧Blk wr w.heap.size 42 #[.bool an,.slice aA ak ac,.bool an',.slice aA' ak' ac'])) (fun _ _ t _=>m-(intOf t).toNat)
   case atStart=>exact ⟨0,Nat.zero_le _,rfl,rfl,rfl,HRA.out⟩
   case round =>
    obtain ⟨k,hk,rfl,rfl,rfl,hR⟩:=hrel;obtain ⟨wz,rfl⟩:∃ u,u=wr:=⟨_,rfl⟩;by_cases hlt:k<m
    ·obtain ⟨b,o,rfl,hb,hc⟩:=HY.out.2 (by omega);obtain ⟨A',n',c',hcell,hst⟩:=hc k hlt;obtain ⟨hBW,hBX⟩:=hR.out;have hcl:=(hBW.cell (p:=⟨b,o+k,none⟩) hb).trans hcell;have hbr:b<wz.heap.size:=Nat.lt_of_lt_of_le hb hBW.size;have hkl:k<bs.length:=by rw [HMN.out];exact hlt
     have hmem:=getD_mem (d:=([]:List (Int×Int))) hkl;have hck:=HCB.out _ hmem;have HCT:=Hj (fun W (hW:Kp wz W)=>rdemandAt_any A' n' c' (bs[k]?.getD []) an an' aA aA' ak ac ak' ac' q W (hst.below (hBW.trans (Below.mono hW hBW.size))) (HQ.out.below (hBW.trans (Below.mono hW hBW.size))) hck);obtain ⟨s1,s2⟩:=ws_snoc (1) q hkl;have bd:=ws_bd (fun l hl=>HCB.out l (List.mem_of_mem_take hl):∀ l∈bs.take k,chk false l=0) (1) q;have bd2:=wl_bd3 hck (1) q;have hl2:=List.length_take_le k bs;generalize wlL (1) q (bs[k]?.getD [])=xl at *;generalize wlM (1) q (bs[k]?.getD [])=xm at *;generalize wsL (1) q (bs.take k)=vl at *;generalize wsM (1) q (bs.take k)=vm at *;have wl1:IntKind.i64.wrap (vl+xl)=vl+xl:=IntWalk.i64_in _ (by omega);have wl2:IntKind.i64.wrap (vm+xm)=vm+xm:=IntWalk.i64_in _ (by omega);have k1:(0:Int)≤(k:Int):=by omega
     have k2:(k:Int)<(m:Int):=by omega
     have HS1:=Hj s1;have HS2:=Hj s2;have HR:=Hj hR.out;have HS:=Hj (show ∀ w',Kp wz w'→(w'.cell? ⟨b,o+k,none⟩=some (.slice A' n' c')∧w'.cell? ⟨w.heap.size,0,none⟩=some (.bool an)∧w'.cell? ⟨w.heap.size,1,none⟩=some (.slice aA ak ac)∧w'.cell? ⟨w.heap.size,2,none⟩=some (.bool an')∧w'.cell? ⟨w.heap.size,3,none⟩=some (.slice aA' ak' ac'))∧Kp wz w' from fun w' hk=>⟨⟨(Below.cell hk (p:=⟨b,o+k,none⟩) hbr).trans hcl,(Kp.blk hk hBX).cell 0,(Kp.blk hk hBX).cell 1,(Kp.blk hk hBX).cell 2,(Kp.blk hk hBX).cell 3⟩,hk⟩);have hk0:=Kp.refl wz;clear hc hcell hst hkl hmem hck s1 s2 bd bd2 hl2 hR hBW hBX hcl hbr hb
     go_wp2_with fail
     go_region_held3 (fun w'=>(w'.cell? ⟨b,o+k,none⟩=some (.slice A' n' c')∧w'.cell? ⟨w.heap.size,0,none⟩=some (.bool an)∧w'.cell? ⟨w.heap.size,1,none⟩=some (.slice aA ak ac)∧w'.cell? ⟨w.heap.size,2,none⟩=some (.bool an')∧w'.cell? ⟨w.heap.size,3,none⟩=some (.slice aA' ak' ac'))∧Kp wz w')
      (with_reducible first|(refine HS.out _ ?_;assumption)|(refine HS.out _ (Kp.drew ?_);assumption)|(refine' HS.out _ (Kp.drew (And.right _));rotate_left;assumption))
      (first
       | (go_at_call 147;have hk:=And.right ‹_∧Kp wz _›;refine (HCT.out _ hk).mono ?_;rintro e v1 ⟨rfl,hb1⟩;have hk2:=Kp.trans hk hb1;clear hb1))
     have HV1:=Hj (And.intro (HR.out.1.trans (Below.mono hk2 HR.out.1.size)) (Kp.blk hk2 HR.out.2));clear hk2 hk0 HCT HR HS;go_wp2;go_roundw
     case rel=>exact ⟨k+1,by omega,by go_num,by rw [HS1.out],by rw [HS2.out],HV1.out⟩
     case measure=>simp [intOf];omega
    ·obtain rfl:k=m:=by omega
     rw [List.take_of_length_le (by rw [HMN.out];exact Nat.le_refl _)];have HB9:=Hj hR.out.1;clear hR;go_wp2;refine bodyPost_ret (v:=.tuple #[.int .i64 x1,.int .i64 x2,.int .i64 (wsL 1 q bs),.int .i64 (wsM 1 q bs)]) ?_ rfl ⟨by rw [HX1.out,HX2.out],HB9.out⟩;simp [results,Tryz.results100,go_sem]
theorem rclears25_in (A B:Option Addr) (n c m d:Nat) (os bs:List (List (Int×Int))) (an an':Bool) (aA aA':Option Addr) (ak ac ak' ac':Nat) (q:Rat) (w:World) (h:CsAt w A n os) (h':CsAt w B m bs) (hq:QS 7 w an aA ak ac an' aA' ak' ac' q) (ho:∀ l∈os,chk true l=0) (hb:∀ l∈bs,chk false l=0) (hn:n≤1000) (hm:m≤1000) :
  Calls Tryz.prog 99 #[.slice A n c,.slice B m d,.agg #[.bool an,.slice aA ak ac,.bool an',.slice aA' ak' ac']] w fun e w'=>e=.returned (.bool (balB os bs q))∧Below w.heap.size w w':=by
 have HWN:=Hj (fun W (hW:Below w.heap.size w W)=>rwants25_any A B n c m d os bs an an' aA aA' ak ac ak' ac' q W (h.below hW) (h'.below hW) (hq.below hW) ho hb hn hm);have HBL:Hid (balB os bs q=(decide (wsL (-1) q os≤wsM 1 q bs) && decide (wsL 1 q bs≤wsM (-1) q os))):=rfl;clear h h' hq ho hb hn hm;generalize wsL (-1) q os=x1 at *;generalize wsM (-1) q os=x2 at *;generalize wsL 1 q bs=y1 at *;generalize wsM 1 q bs=y2 at *;go_enter Tryz.func99,Tryz.ntmps99
 go_wp2_with fail
 have hbx:=Blk.new w 42 #[.bool an,.slice aA ak ac,.bool an',.slice aA' ak' ac'];have hb0:Below w.heap.size w (w.alloc (.cells #[.bool an,.slice aA ak ac,.bool an',.slice aA' ak' ac'] 42)):=(Below.refl _ _).alloc (Nat.le_refl _) _;generalize w.alloc (.cells #[.bool an,.slice aA ak ac,.bool an',.slice aA' ak' ac'] 42)=W0 at *;obtain ⟨_,_,_,_,f0,f1,f2,f3⟩:=hbx.four;have HB0:=Hj hb0;clear hb0 hbx
 go_wp2_with fail
 refine (HWN.out W0 HB0.out).mono ?_;rintro e v1 ⟨rfl,hb1⟩;have HV:=Hj (HB0.out.trans (hb1.mono HB0.out.size));clear hb1 HB0 HWN f0 f1 f2 f3;by_cases p1:x1≤y2
 ·have d1:decide (x1≤y2)=true:=decide_eq_true p1;go_wp2;go_ret;exact ⟨by rw [HBL.out,d1];rfl,HV.out⟩
 ·have d1:decide (x1≤y2)=false:=decide_eq_false p1;go_wp2;go_ret;exact ⟨by rw [HBL.out,d1];rfl,HV.out⟩
theorem rclears25_any (A B:Option Addr) (n c m d:Nat) (os bs:List (List (Int×Int))) (an an':Bool) (aA aA':Option Addr) (ak ac ak' ac':Nat) (q:Rat) (w:World) (h:CsAt w A n os) (h':CsAt w B m bs) (hq:QS 7 w an aA ak ac an' aA' ak' ac' q) :
  Calls Tryz.prog 58 #[.slice A n c,.slice B m d,.agg #[.bool an,.slice aA ak ac,.bool an',.slice aA' ak' ac']] w fun e w'=>e=.returned (.tuple #[.bool (decide (ckB os bs=0) && balB os bs q),.int .i64 (ckB os bs)])∧Below w.heap.size w w':=by
 have HC:=Hj (fun W (hW:Below w.heap.size w W)=>rwrong25_any A B n c m d os bs W (h.below hW) (h'.below hW));have HCI:=Hj (fun (hc:ckB os bs=0) W (hW:Below w.heap.size w W)=>rclears25_in A B n c m d os bs an an' aA aA' ak ac ak' ac' q W (h.below hW) (h'.below hW) (hq.below hW) (ckB_iff.1 hc).2.2.1 (ckB_iff.1 hc).2.2.2 (by have:=h.1;have:=(ckB_iff.1 hc).1;omega) (by have:=h'.1;have:=(ckB_iff.1 hc).2.1;omega));clear h h' hq;generalize ckB os bs=x at *;generalize balB os bs q=y at *;go_enter Tryz.func58,Tryz.ntmps58
 go_wp2_with fail
 have hbx:=Blk.new w 42 #[.bool an,.slice aA ak ac,.bool an',.slice aA' ak' ac'];have hb0:Below w.heap.size w (w.alloc (.cells #[.bool an,.slice aA ak ac,.bool an',.slice aA' ak' ac'] 42)):=(Below.refl _ _).alloc (Nat.le_refl _) _;generalize w.alloc (.cells #[.bool an,.slice aA ak ac,.bool an',.slice aA' ak' ac'] 42)=W0 at *;refine (HC.out W0 hb0).mono ?_;rintro e v1 ⟨rfl,hb1⟩;have hv:=hb0.trans (hb1.mono hb0.size);obtain ⟨_,_,_,_,f0,f1,f2,f3⟩:=(Kp.blk hb1 hbx).four;have HV:=Hj hv;clear hbx hb0 hb1 hv HC;by_cases hx:x=0
 ·have HI:=Hj (HCI.out hx);have dx:(x == 0)=true:=by simpa using hx
  have HDX:=Hj (decide_eq_true hx);clear hx HCI
  go_wp2_with fail
  refine (HI.out v1 HV.out).mono ?_;rintro e v2 ⟨rfl,hb2⟩;have HF:=Hj (HV.out.trans (hb2.mono HV.out.size));clear hb2 HV HI f0 f1 f2 f3;go_wp2;go_ret2;exact ⟨by rw [HDX.out];rfl,HF.out⟩
 ·have dx:(x == 0)=false:=beq_false_of_ne hx;have HDX:=Hj (decide_eq_false hx);clear hx HCI;go_wp2;go_ret2;exact ⟨by rw [HDX.out];rfl,HV.out⟩
theorem ralloc_no (A:Option Addr) (n c:Nat) (l:List (Int×Int)) (w:World) (h:StAt w A n l) (he:curveE l=0) (an an':Bool) (aA aA':Option Addr) (ak ac ak' ac':Nat) (q:Rat) (hq:QS 7 w an aA ak ac an' aA' ak' ac' q) (hx:q<0∨((qsum l:Int):Rat)<q) :
  Calls Tryz.prog 155 #[.slice A n c,.agg #[.bool an,.slice aA ak ac,.bool an',.slice aA' ak' ac']] w fun e w'=>e=.returned (.tuple #[.slice none 0 0,.int .i64 1])∧Below w.heap.size w w':=by
 obtain ⟨hn0,hn3,hok⟩:=curve_ok he;have hln:=h.1;have hbd:=qsum_bd l hok;have hlen:(l.length:Int)≤3:=by omega
 have hsum:sumS l=qsum l:=by unfold sumS;rw [if_pos he]
 have CC:=fun W (hW:Below w.heap.size w W)=>rcurve_any A n c l W (h.below hW);have SM:=fun W (hW:Below w.heap.size w W)=>rsum_any A n c l W (h.below hW);rw [he] at CC;rw [hsum] at SM;have SG:=fun W (hW:Below w.heap.size w W)=>rsignq_s (s:=7) (by decide) an an' aA aA' ak ac ak' ac' q W (hq.below hW);have FI:=fun W=>rint_any (qsum l) W (by omega) (by omega);have hl3:Ls 7 ((qsum l:Int):Rat):=(ls_int (Nat.le_refl 3) (by omega)).mono (by decide);have CM:=fun (W:World) (hW:Below w.heap.size w W) (B:Option Addr) (k d:Nat) (B':Option Addr) (k' d':Nat) (h:RQ W ((qsum l:Int):Rat) B k d B' k' d')=>rcmpq_s (s:=7) (by decide) an an' _ false aA aA' B B' ak ac ak' ac' k d k' d' q _ W (hq.below hW) (h.qs hl3 (by decide));clear hl3;generalize qsum l=sl at *;generalize ((sl:Int):Rat)=qs at *;by_cases hneg:q<0
 ·have hsg:decide (sgnQ q<0)=true:=by
   have:=(num_ltW q).1 hneg;unfold sgnQ;rw [cmpI_lt this];decide
  generalize sgnQ q=sq at *;have SG:=Hj SG;have CC:=Hj CC;clear SM FI CM h hq hx hneg;go_enter Tryz.func155,Tryz.ntmps155
  go_wp2_with fail
  have hB0:=Blk.new w 42 #[.bool an,.slice aA ak ac,.bool an',.slice aA' ak' ac'];have hBW:Below w.heap.size w (w.alloc (.cells #[.bool an,.slice aA ak ac,.bool an',.slice aA' ak' ac'] 42)):=(Below.refl _ _).alloc (Nat.le_refl _) _;generalize w.alloc (.cells #[.bool an,.slice aA ak ac,.bool an',.slice aA' ak' ac'] 42)=W at *;refine (CC.out W hBW).mono ?_;rintro e w1 ⟨rfl,hb1⟩;have hB1:=hB0.below hb1 hB0.lt;have hBW1:Below w.heap.size w w1:=hBW.trans (hb1.mono hBW.size);have HBK:=Hj (show ∀ w',Kp w1 w'→Below w.heap.size w w' from fun w' hk=>hBW1.trans (Below.mono hk hBW1.size));clear hb1 hB0 hBW hBW1 CC
  go_wp2_with fail
  refine held_at (W:=w1) (C:=fun w'=>w'.cell? ⟨w.heap.size,0,none⟩=some (.bool an)∧w'.cell? ⟨w.heap.size,1,none⟩=some (.slice aA ak ac)∧w'.cell? ⟨w.heap.size,2,none⟩=some (.bool an')∧w'.cell? ⟨w.heap.size,3,none⟩=some (.slice aA' ak' ac')) (fun w' hk=>⟨(hk.blk hB1).cell 0,(hk.blk hB1).cell 1,(hk.blk hB1).cell 2,(hk.blk hB1).cell 3⟩) (Kp.refl w1) (fun HS hH0=>?_);refine tq 0 ?_;refine rd1 1 fun K hK=>?_
  (try simp only [p1,p2,p3])
  go_simp;have hk:=And.right ‹_∧Kp w1 _›;refine (SG.out _ (HBK.out _ hk)).mono ?_;rintro e v1 ⟨rfl,hbx⟩;have hp:Kp w1 v1:=Kp.trans hk hbx;clear hk hbx
  (try (go_wp2_with fail))
  refine hK.out _ _ (HS.out _ hp) fun hH1=>?_;clear hK K hH0
  (try simp only [Act.put,p1,p2,p3,p4,p5,p6])
  refine tq 2 ?_;refine tq 3 ?_;refine tu 4 ?_;refine tu 5 ?_;refine tu 6 ?_;refine tu 7 ?_;refine tu 8 ?_;refine tu 9 ?_;refine tq 10 ?_;refine wpAnyH_done (by kernel_rfl) ?_ _;clear hH1;have HF:=Hj (HBK.out _ hp);clear hp HS hB1;go_wp2;go_ret2;exact ⟨rfl,HF.out⟩
 ·have hsg:decide (sgnQ q<0)=false:=by
   have h1:¬ q.num<0:=fun hh=>hneg ((num_ltW q).2 hh);apply decide_eq_false;unfold sgnQ;rcases Int.lt_trichotomy q.num 0 with h2|h2|h2
   ·exact absurd h2 h1
   ·rw [h2];decide
   ·rw [cmpI_gt h2];decide
  have hcm:decide (0<cmpQ q qs)=true:=by
   apply decide_eq_true;rw [cmpQ_gt.2 (by rcases hx with hx|hx;exact absurd hx hneg;exact hx)];decide
  generalize sgnQ q=sq at *;generalize cmpQ q qs=cq at *;have SG:=Hj SG;have CC:=Hj CC;have SM:=Hj SM;have FI:=Hj FI;have CM:=Hj CM;clear h hq hx hneg;go_enter Tryz.func155,Tryz.ntmps155
  go_wp2_with fail
  have hB0:=Blk.new w 42 #[.bool an,.slice aA ak ac,.bool an',.slice aA' ak' ac'];have hBW:Below w.heap.size w (w.alloc (.cells #[.bool an,.slice aA ak ac,.bool an',.slice aA' ak' ac'] 42)):=(Below.refl _ _).alloc (Nat.le_refl _) _;generalize w.alloc (.cells #[.bool an,.slice aA ak ac,.bool an',.slice aA' ak' ac'] 42)=W at *;refine (CC.out W hBW).mono ?_;rintro e w1 ⟨rfl,hb1⟩;have hB1:=hB0.below hb1 hB0.lt;have hBW1:Below w.heap.size w w1:=hBW.trans (hb1.mono hBW.size);have HBK:=Hj (show ∀ w',Kp w1 w'→Below w.heap.size w w' from fun w' hk=>hBW1.trans (Below.mono hk hBW1.size));clear hb1 hB0 hBW hBW1 CC
  go_wp2_with fail
  refine held_at (W:=w1) (C:=fun w'=>w'.cell? ⟨w.heap.size,0,none⟩=some (.bool an)∧w'.cell? ⟨w.heap.size,1,none⟩=some (.slice aA ak ac)∧w'.cell? ⟨w.heap.size,2,none⟩=some (.bool an')∧w'.cell? ⟨w.heap.size,3,none⟩=some (.slice aA' ak' ac')) (fun w' hk=>⟨(hk.blk hB1).cell 0,(hk.blk hB1).cell 1,(hk.blk hB1).cell 2,(hk.blk hB1).cell 3⟩) (Kp.refl w1) (fun HS hH0=>?_);refine tq 0 ?_;refine rd1 1 fun K hK=>?_
  (try simp only [p1,p2,p3])
  go_simp;have hk:=And.right ‹_∧Kp w1 _›;refine (SG.out _ (HBK.out _ hk)).mono ?_;rintro e v1 ⟨rfl,hbx⟩;have hp:Kp w1 v1:=Kp.trans hk hbx;clear hk hbx
  (try (go_wp2_with fail))
  refine hK.out _ _ (HS.out _ hp) fun hH2=>?_;clear hK K hH0
  (try simp only [Act.put,p1,p2,p3,p4,p5,p6])
  refine tq 2 ?_;refine tq 3 ?_;refine tq 4 ?_;refine tq 5 ?_;refine rd1 6 fun K hK=>?_
  (try simp only [p1,p2,p3])
  go_simp;have hk:=And.right ‹_∧Kp w1 _›;refine (SM.out _ (HBK.out _ hk)).mono ?_;rintro e v2 ⟨rfl,hbx⟩;have hp:Kp w1 v2:=Kp.trans hk hbx;clear hk hbx
  (try (go_wp2_with fail))
  refine hK.out _ _ (HS.out _ hp) fun hH3=>?_;clear hK K hH2
  (try simp only [Act.put,p1,p2,p3,p4,p5,p6])
  refine rd1 7 fun K hK=>?_
  (try simp only [p1,p2,p3])
  go_simp;have hk:=And.right ‹_∧Kp w1 _›;refine (FI.out _).mono ?_;rintro e v3 ⟨A3,k3,c3,A4,k4,c4,rfl,hk3,hk4,hW3,hW4,-,-,hbx⟩;have hp:Kp w1 v3:=Kp.trans hk hbx;have hrq:=(show RQ v3 qs A3 k3 c3 A4 k4 c4 from ⟨hk3,hk4,hW3,hW4⟩);clear hk hbx hk3 hk4 hW3 hW4
  (try (go_wp2_with fail))
  refine hK.out _ _ (HS.out _ hp) fun hH4=>?_;clear hK K hH3
  (try simp only [Act.put,p1,p2,p3,p4,p5,p6])
  refine rd1 8 fun K hK=>?_
  (try simp only [p1,p2,p3])
  go_simp;have hk:=And.right ‹_∧Kp w1 _›;refine (CM.out _ (HBK.out _ hk) _ _ _ _ _ _ hrq).mono ?_;rintro e v4 ⟨rfl,hbx⟩;have hp:Kp w1 v4:=Kp.trans hk hbx;clear hk hbx hrq
  (try (go_wp2_with fail))
  refine hK.out _ _ (HS.out _ hp) fun hH5=>?_;clear hK K hH4
  (try simp only [Act.put,p1,p2,p3,p4,p5,p6])
  refine tq 9 ?_;refine tq 10 ?_;refine wpAnyH_done (by kernel_rfl) ?_ _;clear hH5;have HF:=Hj (HBK.out _ hp);clear hp HS hB1;go_wp2;go_ret2;exact ⟨rfl,HF.out⟩
def PyI (g:Nat) (V:World) (ms:List Rat) (sm:Rat) (i:Nat) (Ah:Option Addr) (ch:Nat) (es:List QEnt) (wr:World):Prop :=
 Below g V wr∧Own V.heap.size 42 4 wr Ah i ch (qCells es)∧QEnts Ah ms wr i es∧∃ A k c A' k' c',Blk wr g 42 #[.bool (decide (sm.num<0)),.slice A k c,.bool false,.slice A' k' c']∧RQ wr sm A k c A' k' c'∧Off Ah A k∧Off Ah A' k'
theorem QEnts.put4 {B:Option Addr} {ps:List Rat} {w:World} {i g o:Nat} {es:List QEnt} {a b:Bool} {X X':Option Addr} {j d j' d':Nat} {t:TypeId} {cs:Array Value} (h:QEnts B ps w i es) (hb:Blk w g t cs) (hn:NoInt cs):QEnts B ps (qst w g o a b X X' j d j' d') i es :=
 ⟨h.1,fun k hk=>⟨(h.2 k hk).1,(h.2 k hk).2.1.put4 hb hn,(h.2 k hk).2.2⟩⟩
theorem Own.put4 {base g o:Nat} {e:TypeId} {size n c:Nat} {w:World} {A:Option Addr} {xs:List Value} {a b:Bool} {X X':Option Addr} {j d j' d':Nat} (h:Own base e size w A n c xs) (hg:g<base):Own base e size (qst w g o a b X X' j d j' d') A n c xs :=
 (((h.aside (p:=⟨g,o,none⟩) hg _).aside (p:=⟨g,o+1,none⟩) hg _).aside (p:=⟨g,o+2,none⟩) hg _).aside (p:=⟨g,o+3,none⟩) hg _
def partsA (l:List (Int×Int)) (q:Rat) (n:Nat):List Rat:=(List.range n).map (partAt l q)
theorem partsA_len (l:List (Int×Int)) (q:Rat) (n:Nat):(partsA l q n).length=n:=by simp [partsA]
theorem partsA_get {l:List (Int×Int)} {q:Rat} {n j:Nat} (h:j<n):(partsA l q n)[j]?.getD 0=partAt l q j:=by simp [partsA,h]
end Go.Proofs.YtjajigkacccdgaaGreat
namespace Go.Proofs.YtjajigkacccdgaaGreat
open Go.RowKit
open Wd
attribute [local go_sem ↓] Go.wp_at_zero Go.wp_at_succ
end Go.Proofs.YtjajigkacccdgaaGreat
namespace Go.Proofs.YtjajigkacccdgaaGreat
open Go.RowKit
open Wd
theorem sz_drewS (w:World):w.drew.heap.size=w.heap.size:=rfl
theorem blk_hereS {V X:World} (h:Kp V X) (t:TypeId) (cs:Array Value):Blk (X.alloc (.cells cs t)) X.heap.size t cs:=Blk.new X t cs
def RAllocP (l:List (Int×Int)) (q:Rat) (n:Nat) (w:World) (e:Ending) (w':World):Prop :=
 ∃ Ah ch,e=.returned (.tuple #[.slice Ah n ch,.int .i64 0])∧QsAt w' Ah n (partsA l q n)∧Below w.heap.size w w'
theorem ralloc_ok (A:Option Addr) (n c:Nat) (l:List (Int×Int)) (w:World) (h:StAt w A n l) (he:curveE l=0) (an an':Bool) (aA aA':Option Addr) (ak ac ak' ac':Nat) (q:Rat) (hq:QS 7 w an aA ak ac an' aA' ak' ac' q) (h0:0≤q) (h1:q≤((qsum l:Int):Rat)) :
  Calls Tryz.prog 155 #[.slice A n c,.agg #[.bool an,.slice aA ak ac,.bool an',.slice aA' ak' ac']] w (RAllocP l q n w):=by
 obtain ⟨hn0,hn3,hok⟩:=curve_ok he;have hln:=h.1;have hbd:=qsum_bd l hok;have hlen:(l.length:Int)≤3:=by omega
 have hsum:sumS l=qsum l:=by unfold sumS;rw [if_pos he]
 have CC:=fun W (hW:Below w.heap.size w W)=>rcurve_any A n c l W (h.below hW);have SM:=fun W (hW:Below w.heap.size w W)=>rsum_any A n c l W (h.below hW);rw [he] at CC;rw [hsum] at SM;have SG:=fun W (hW:Below w.heap.size w W)=>rsignq_s (s:=7) (by decide) an an' aA aA' ak ac ak' ac' q W (hq.below hW);have TL:=Hj (fun W (hW:Below w.heap.size w W)=>rleastq_s (s:=7) (by decide) an an' aA aA' ak ac ak' ac' q W (hq.below hW));have FI:=fun W=>rint_any (qsum l) W (by omega) (by omega);have hl3:Ls 7 ((qsum l:Int):Rat):=(ls_int (Nat.le_refl 3) (by omega)).mono (by decide);have CM:=fun (W:World) (hW:Below w.heap.size w W) (B:Option Addr) (k d:Nat) (B':Option Addr) (k' d':Nat) (h:RQ W ((qsum l:Int):Rat) B k d B' k' d')=>rcmpq_s (s:=7) (by decide) an an' _ false aA aA' B B' ak ac ak' ac' k d k' d' q _ W (hq.below hW) (h.qs hl3 (by decide));have hsg:decide (sgnQ q<0)=false:=by
  have hneg:¬ q<0:=by grind
  have h1:¬ q.num<0:=fun hh=>hneg ((num_ltW q).2 hh);apply decide_eq_false;unfold sgnQ;rcases Int.lt_trichotomy q.num 0 with h2|h2|h2
  ·exact absurd h2 h1
  ·rw [h2];decide
  ·rw [cmpI_gt h2];decide
 have hcm:decide (0<cmpQ q ((qsum l:Int):Rat))=false:=by
  apply decide_eq_false;intro hh;have:cmpQ q ((qsum l:Int):Rat)=1:=by
   rcases cmpQ_cases q ((qsum l:Int):Rat) with h2|h2|h2
   ·rw [h2] at hh;exact absurd hh (by decide)
   ·rw [h2] at hh;exact absurd hh (by decide)
   ·exact h2
  have:=cmpQ_gt.1 this;grind
 have HX:=Hj h;have HOK:=Hj hok;have HLN:=Hj hln;have HN3:=Hj (show n≤3 by omega);have HQ0:=Hj h0;have HLQ:=Hj hq.ls;clear hl3 hln hbd hlen hsum hn0 h hq h0 h1 hok he;generalize qsum l=sl at *;generalize ((sl:Int):Rat)=qs at *;generalize sgnQ q=sq at *;generalize cmpQ q qs=cq at *;have SG:=Hj SG;have CC:=Hj CC;have SM:=Hj SM;have FI:=Hj FI;have CM:=Hj CM;unfold RAllocP;go_enter Tryz.func155,Tryz.ntmps155
 go_wp2_with fail
 have hB0:=Blk.new w 42 #[.bool an,.slice aA ak ac,.bool an',.slice aA' ak' ac'];have hBW:Below w.heap.size w (w.alloc (.cells #[.bool an,.slice aA ak ac,.bool an',.slice aA' ak' ac'] 42)):=(Below.refl _ _).alloc (Nat.le_refl _) _;generalize w.alloc (.cells #[.bool an,.slice aA ak ac,.bool an',.slice aA' ak' ac'] 42)=W at *;refine (CC.out W hBW).mono ?_;rintro e w1 ⟨rfl,hb1⟩;have hB1:=hB0.below hb1 hB0.lt;have hBW1:Below w.heap.size w w1:=hBW.trans (hb1.mono hBW.size);have HBK:=Hj (show ∀ w',Kp w1 w'→Below w.heap.size w w' from fun w' hk=>hBW1.trans (Below.mono hk hBW1.size));clear hb1 hB0 hBW hBW1 CC
 go_wp2_with fail
 refine held_at (W:=w1) (C:=fun w'=>w'.cell? ⟨w.heap.size,0,none⟩=some (.bool an)∧w'.cell? ⟨w.heap.size,1,none⟩=some (.slice aA ak ac)∧w'.cell? ⟨w.heap.size,2,none⟩=some (.bool an')∧w'.cell? ⟨w.heap.size,3,none⟩=some (.slice aA' ak' ac')) (fun w' hk=>⟨(hk.blk hB1).cell 0,(hk.blk hB1).cell 1,(hk.blk hB1).cell 2,(hk.blk hB1).cell 3⟩) (Kp.refl w1) (fun HS hH0=>?_);refine tq 0 ?_;refine rd1 1 fun K hK=>?_
 (try simp only [p1,p2,p3])
 go_simp;have hk:=And.right ‹_∧Kp w1 _›;refine (SG.out _ (HBK.out _ hk)).mono ?_;rintro e v1 ⟨rfl,hbx⟩;have hp:Kp w1 v1:=Kp.trans hk hbx;clear hk hbx
 (try (go_wp2_with fail))
 refine hK.out _ _ (HS.out _ hp) fun hH12=>?_;clear hK K hH0
 (try simp only [Act.put,p1,p2,p3,p4,p5,p6])
 refine tq 2 ?_;refine tq 3 ?_;refine tq 4 ?_;refine tq 5 ?_;refine rd1 6 fun K hK=>?_
 (try simp only [p1,p2,p3])
 go_simp;have hk:=And.right ‹_∧Kp w1 _›;refine (SM.out _ (HBK.out _ hk)).mono ?_;rintro e v2 ⟨rfl,hbx⟩;have hp:Kp w1 v2:=Kp.trans hk hbx;clear hk hbx
 (try (go_wp2_with fail))
 refine hK.out _ _ (HS.out _ hp) fun hH13=>?_;clear hK K hH12
 (try simp only [Act.put,p1,p2,p3,p4,p5,p6])
 refine rd1 7 fun K hK=>?_
 (try simp only [p1,p2,p3])
 go_simp;have hk:=And.right ‹_∧Kp w1 _›;refine (FI.out _).mono ?_;rintro e v3 ⟨A3,k3,c3,A4,k4,c4,rfl,hk3,hk4,hW3,hW4,-,-,hbx⟩;have hp:Kp w1 v3:=Kp.trans hk hbx;have hrq:=(show RQ v3 qs A3 k3 c3 A4 k4 c4 from ⟨hk3,hk4,hW3,hW4⟩);clear hk hbx hk3 hk4 hW3 hW4
 (try (go_wp2_with fail))
 refine hK.out _ _ (HS.out _ hp) fun hH14=>?_;clear hK K hH13
 (try simp only [Act.put,p1,p2,p3,p4,p5,p6])
 refine rd1 8 fun K hK=>?_
 (try simp only [p1,p2,p3])
 go_simp;have hk:=And.right ‹_∧Kp w1 _›;refine (CM.out _ (HBK.out _ hk) _ _ _ _ _ _ hrq).mono ?_;rintro e v4 ⟨rfl,hbx⟩;have hp:Kp w1 v4:=Kp.trans hk hbx;clear hk hbx hrq
 (try (go_wp2_with fail))
 refine hK.out _ _ (HS.out _ hp) fun hH15=>?_;clear hK K hH14
 (try simp only [Act.put,p1,p2,p3,p4,p5,p6])
 refine tq 9 ?_;refine tq 10 ?_;refine wpAnyH_done (by kernel_rfl) ?_ _;clear hH15;obtain ⟨⟨f0,f1,f2,f3⟩,-⟩:=HS.out v4 hp;have HV4:=Hj (HBK.out _ hp);clear hp HS HBK hB1
 go_wp2_with fail
 refine (TL.out v4 HV4.out).mono ?_;rintro e u1 ⟨F3,f3',g3,G3,i3,j3,rfl,hz1,hz2,hz3,hz4,hz5,hz6,hb1⟩;have hB7:=Blk.new u1 42 #[.bool (decide (q.num<0)),.slice F3 f3' g3,.bool false,.slice G3 i3 j3];have hxV:=(Kp.refl u1).alloc (.cells #[.bool (decide (q.num<0)),.slice F3 f3' g3,.bool false,.slice G3 i3 j3] 42);have hw1:Below w.heap.size w u1:=HV4.out.trans (hb1.mono HV4.out.size);have HV:=Hj (And.intro (hw1.trans (Below.mono hxV (Below.size hw1))) (And.intro (Below.size hw1) (And.intro hB7 (RQ.below (show RQ u1 q F3 f3' g3 G3 i3 j3 from ⟨hz1,hz2,hz3,hz4⟩) hxV))));have HFF:=Hj (And.intro (hz5.mono (Nat.le_refl _)) (hz6.mono (Nat.le_refl _)));clear hz1 hz2 hz3 hz4 hz5 hz6 hb1 TL HV4 f0 f1 f2 f3 hB7 hxV hw1
 go_wp2_with fail
 generalize u1.alloc (.cells #[.bool (decide (q.num<0)),.slice F3 f3' g3,.bool false,.slice G3 i3 j3] 42)=V at *;generalize u1.heap.size=g at *;obtain ⟨ii,hii,hz0,hz1,hz2⟩:=info_parts info_q;have HI:=Hj hii;have HZ0:=Hj hz0;have HZ1:=Hj hz1;have HZ2:=Hj hz2;have HGV:=Hj HV.out.2.2.1.lt;have HMS:=Hj (partsA_len l q n);have HMI:=Hj (fun j (hj:j<n)=>partsA_get (l:=l) (q:=q) hj);generalize hmse:partsA l q n=ms at *;have HME:=Hj hmse;clear hii hz0 hz1 hz2 hmse
 go_loopw [8,9] (fun th t wr=>∃ (i:Nat) (Ah:Option Addr) (ch:Nat) (es:List QEnt),i≤n∧th=.slice Ah i ch∧t=.int .i64 (i:Int)∧Hid (PyI g V ms (restAt l q i) i Ah ch es wr)) (fun _ t _=>n-(intOf t).toNat)
 case atStart=>exact ⟨0,none,0,[],Nat.zero_le _,rfl,rfl,Hj ⟨Below.refl _ _,Own.nil _ _ _ _,QEnts.start,F3,f3',g3,G3,i3,j3,HV.out.2.2.1,HV.out.2.2.2,Off.fresh HFF.out.1 (fun b hb=>by simp at hb),Off.fresh HFF.out.2 (fun b hb=>by simp at hb)⟩⟩
 case round =>
  obtain ⟨i,Ah,ch,es,hi,rfl,rfl,HR0⟩:=hrel;by_cases hlt:i<n
  ·obtain ⟨r1,r2,r3,A5,k5,c5,A6,k6,c6,r4,r5,r6,r7⟩:=HR0.out;have hwr:=HV.out.1.trans (r1.mono HV.out.2.1);obtain ⟨b,o,rfl,hb,hc⟩:=HX.out.2.2 (by omega);obtain ⟨y0,-⟩:=hc i hlt;replace y0:=(hwr.cell (p:=⟨b,o+i*2,none⟩) hb).trans y0;have hbr:b<wr.heap.size:=Nat.lt_of_lt_of_le hb hwr.size;have hkl:i<l.length:=by rw [HLN.out];exact hlt
   have hbad:=HOK.out _ (getD_mem (d:=((0,0):Int×Int)) hkl);have hmi:=HMI.out i hlt;have h3:=wb_three;have h3s:=wb_mono (show 3≤7 by decide);obtain ⟨hl0,hl1,hl2⟩:=restAt_bd HQ0.out HOK.out HLQ.out.1 HLQ.out.2 i (by omega);have hleft:Ls 7 (restAt l q i):=⟨hl1,hl2⟩;have hyl:Ls 7 (partAt l q i):=partAt_bd HQ0.out HOK.out HLQ.out.1 HLQ.out.2 (by omega) (by omega) hkl;have hpt:partAt l q i=lessQ (restAt l q i) (l[i]?.getD (0,0)).1:=rfl;have hst:restAt l q (i+1)=restAt l q i-partAt l q i:=rfl;rw [hpt] at hst hmi hyl;generalize restAt l q i=left at *;generalize (l[i]?.getD (0,0)).1=sq at *;unfold Bad at hbad;have hl3:Ls 7 ((sq:Int):Rat):=(ls_int (Nat.le_refl 3) (by omega)).mono (by decide);have TI:=Hj (fun W=>rint_any sq W (by omega) (by omega));have TM:=Hj (fun (W:World) (hW:Kp wr W) (R R':Option Addr) (k d k' d':Nat) (hh:RQ W ((sq:Int):Rat) R k d R' k' d')=>(show Calls Tryz.prog 77 #[.agg #[.bool (decide (left.num<0)),.slice A5 k5 c5,.bool false,.slice A6 k6 c6],.agg #[.bool (decide (((sq:Int):Rat).num<0)),.slice R k d,.bool false,.slice R' k' d']] W (RetQ W (lessQ left sq)) from rminq_s (s:=7) (by decide) _ false _ false A5 A6 R R' k5 c5 k6 c6 k d k' d' left _ W ((RQ.below r5 hW).qs hleft (by decide)) (hh.qs hl3 (by decide))));generalize lessQ left sq=yq at *;have HLT:=Hj (fun m (hm:wr.heap.size≤m) b (hb:Ah.map (fun a=>a.block)=some b)=>Nat.lt_of_lt_of_le (r2.blk_lt b hb) hm);have HR:=Hj (And.intro r1 (And.intro r2 r3));have HBX:=Hj (And.intro r4 (And.intro r5 (And.intro r6 r7)));have HYQ:=Hj hmi;have HYL:=Hj hyl;have HSL:=Hj hleft;have HSTEP:=Hj hst;have HWR:=Hj hwr;have i1:(0:Int)≤(i:Int):=by omega
   have i2:(i:Int)<(n:Int):=by omega
   clear HR0 r1 r2 r3 r4 r5 r6 r7 hwr hb hc hkl hbad hmi h3 h3s hl0 hl1 hl2 hleft hyl hpt hst hl3
   go_wp2_with fail
   apply join_at
   case h =>
    intro key;refine held_at (W:=wr) (C:=fun w'=>w'.cell? ⟨g,0,none⟩=some (.bool (decide (left.num<0)))∧w'.cell? ⟨g,1,none⟩=some (.slice A5 k5 c5)∧w'.cell? ⟨g,2,none⟩=some (.bool false)∧w'.cell? ⟨g,3,none⟩=some (.slice A6 k6 c6)∧w'.cell? ⟨b,o+i*2,none⟩=some (.int .i64 sq)) (fun w' hk=>⟨(Kp.blk hk HBX.out.1).cell 0,(Kp.blk hk HBX.out.1).cell 1,(Kp.blk hk HBX.out.1).cell 2,(Kp.blk hk HBX.out.1).cell 3,(Below.cell hk (p:=⟨b,_,none⟩) hbr).trans y0⟩) (Kp.refl wr) (fun HS hH0=>?_);refine tq 0 ?_;refine tq 1 ?_;refine tq 2 ?_;refine tq 3 ?_;refine tq 4 ?_;refine tq 5 ?_;refine rd2 6 8 (fun K hK=>?_) (fun K hK=>?_)
    ·(try simp only [p1,p2,p3])
     go_simp;have hk:=And.right ‹_∧Kp wr _›;refine (TI.out _).mono ?_;rintro e v6 ⟨N1,n1,n2,N2,n3,n4,rfl,hk9,hj9,hW9,hX9,-,-,hbx⟩;have hp:=Kp.trans hk hbx;have r1q:RQ v6 ((sq:Int):Rat) N1 n1 n2 N2 n3 n4:=⟨hk9,hj9,hW9,hX9⟩
     (try replace hb12:=Blk.below hb12 hbx hb12.lt)
     clear hk hbx hk9 hj9 hW9 hX9
     (try (go_wp2_with fail))
     refine hK.out _ _ (HS.out _ hp) fun hH1=>?_;clear hK K hH0
     (try simp only [Act.put,p1,p2,p3,p4,p5,p6])
     refine rd2 7 8 (fun K hK=>?_) (fun K hK=>?_)
     ·(try simp only [p1,p2,p3])
      go_simp;have hk:=And.right ‹_∧Kp wr _›
      first|refine (TM.out _ hk _ _ _ _ _ _ r1q).mono ?_|refine (TM.out _ hk _ _ _ _ _ _ (RQ.below r1q ((Kp.refl v6).alloc _))).mono ?_
      rintro e v7 ⟨A1,k1,c1,A2,k2,c2,rfl,hk9,hj9,hW9,hX9,hF9,hG9,hbx⟩;have hp:=Kp.trans hk hbx;have r2q:RQ v7 yq A1 k1 c1 A2 k2 c2:=⟨hk9,hj9,hW9,hX9⟩;have HOF:=Hj (And.intro (Off.fresh hF9 (HLT.out _ (Below.size hk))) (Off.fresh hG9 (HLT.out _ (Below.size hk))))
      (try replace hb12:=Blk.below hb12 hbx hb12.lt)
      clear hk hbx hk9 hj9 hW9 hX9 hF9 hG9 r1q
      (try (go_wp2_with fail))
      refine hK.out _ _ (HS.out _ hp) fun hH2=>?_;clear hK K hH1
      (try simp only [Act.put,p1,p2,p3,p4,p5,p6])
      refine rd1 8 fun K hK=>?_
      (try simp only [p1,p2,p3])
      go_simp;have hk:=And.right ‹_∧Kp wr _›;have hg12:=Below.size hk;have hb12:=blk_hereS hk 42 #[.bool false,.slice none 0 0,.bool false,.slice none 0 0]
      (try simp only [sz_drewS] at hb12 hg12)
      refine hK.out _ _ (by first|exact HS.out _ (Kp.alloc hk _)|exact HS.out _ (Kp.drew (Kp.alloc (Kp.refl wr) _))) fun hH3=>?_;clear hK K hH2
      (try simp only [Act.put,p1,p2,p3,p4,p5,p6])
      refine rd1 9 fun K hK=>?_;have hk:=And.right ‹_∧Kp wr _›;obtain ⟨_,_,_,_,i0,i1',i2',i3⟩:=hb12.four
      (try simp only [p1,p2,p3])
      go_simp;refine hK.out _ _ (by first|exact HS.out _ (Kp.alloc hp _)|exact HS.out _ (kp_set4 hk hg12 _ _ _ _)) fun hH4=>?_;clear hK K hH3
      (try simp only [Act.put,p1,p2,p3,p4,p5,p6])
      refine wpAnyH_done (by kernel_rfl) ?_ _;clear hH4;have hkY:=Kp.alloc hp (.cells #[.bool (decide (yq.num<0)),.slice A1 k1 c1,.bool false,.slice A2 k2 c2] 42);have hbY:=Blk.new v7 42 #[.bool (decide (yq.num<0)),.slice A1 k1 c1,.bool false,.slice A2 k2 c2];have hqY:=WQ.below r2q ((Kp.refl v7).alloc (.cells #[.bool (decide (yq.num<0)),.slice A1 k1 c1,.bool false,.slice A2 k2 c2] 42));have hgY:=Below.size hp;clear hk hp hb12 hg12 i0 i1' i2' i3 r2q;generalize v7.alloc (.cells #[.bool (decide (yq.num<0)),.slice A1 k1 c1,.bool false,.slice A2 k2 c2] 42)=Y at *;generalize v7.heap.size=gx at hbY hgY ⊢;revert HOF;revert hgY;revert hqY;revert hbY;revert hkY;revert c2;revert k2;revert A2;revert c1;revert k1;revert A1;revert n4;revert n3;revert N2;revert n2;revert n1;revert N1;revert gx;revert Y;exact key.out
     ·(try simp only [p1,p2,p3])
      go_simp;have hk:=And.right ‹_∧Kp wr _›;have hg12:=Below.size hk;have hb12:=blk_hereS hk 42 #[.bool false,.slice none 0 0,.bool false,.slice none 0 0]
      (try simp only [sz_drewS] at hb12 hg12)
      refine hK.out _ _ (by first|exact HS.out _ (Kp.alloc hk _)|exact HS.out _ (Kp.drew (Kp.alloc (Kp.refl wr) _))) fun hH5=>?_;clear hK K hH1
      (try simp only [Act.put,p1,p2,p3,p4,p5,p6])
      refine rd1 7 fun K hK=>?_
      (try simp only [p1,p2,p3])
      go_simp;have hk:=And.right ‹_∧Kp wr _›
      first|refine (TM.out _ hk _ _ _ _ _ _ r1q).mono ?_|refine (TM.out _ hk _ _ _ _ _ _ (RQ.below r1q ((Kp.refl v6).alloc _))).mono ?_
      rintro e v7 ⟨A1,k1,c1,A2,k2,c2,rfl,hk9,hj9,hW9,hX9,hF9,hG9,hbx⟩;have hp:=Kp.trans hk hbx;have r2q:RQ v7 yq A1 k1 c1 A2 k2 c2:=⟨hk9,hj9,hW9,hX9⟩;have HOF:=Hj (And.intro (Off.fresh hF9 (HLT.out _ (Below.size hk))) (Off.fresh hG9 (HLT.out _ (Below.size hk))))
      (try replace hb12:=Blk.below hb12 hbx hb12.lt)
      clear hk hbx hk9 hj9 hW9 hX9 hF9 hG9 r1q
      (try (go_wp2_with fail))
      refine hK.out _ _ (HS.out _ hp) fun hH6=>?_;clear hK K hH5
      (try simp only [Act.put,p1,p2,p3,p4,p5,p6])
      refine rd1 9 fun K hK=>?_;have hk:=And.right ‹_∧Kp wr _›;obtain ⟨_,_,_,_,i0,i1',i2',i3⟩:=hb12.four
      (try simp only [p1,p2,p3])
      go_simp;refine hK.out _ _ (by first|exact HS.out _ (Kp.alloc hp _)|exact HS.out _ (kp_set4 hk hg12 _ _ _ _)) fun hH7=>?_;clear hK K hH6
      (try simp only [Act.put,p1,p2,p3,p4,p5,p6])
      refine wpAnyH_done (by kernel_rfl) ?_ _;clear hH7;have hkY:=kp_set4 hp hg12 (.bool (decide (yq.num<0))) (.slice A1 k1 c1) (.bool false) (.slice A2 k2 c2);have hbY:=(show Blk (qst v7 v6.heap.size 0 (decide (yq.num<0)) false A1 A2 k1 c1 k2 c2) v6.heap.size 42 #[.bool (decide (yq.num<0)),.slice A1 k1 c1,.bool false,.slice A2 k2 c2] from hb12.put4);have hqY:=WQ.put4 (o:=0) (a:=decide (yq.num<0)) (b:=false) (B:=A1) (B':=A2) (j:=k1) (d:=c1) (j':=k2) (d':=c2) r2q hb12 NoInt.four;simp only [qst,Nat.zero_add] at hbY hqY;have hgY:=hg12;clear hk hp hb12 hg12 i0 i1' i2' i3 r2q;generalize (((v7.setCell ⟨v6.heap.size,0,none⟩ (.bool (decide (yq.num<0)))).setCell ⟨v6.heap.size,1,none⟩ (.slice A1 k1 c1)).setCell ⟨v6.heap.size,2,none⟩ (.bool false)).setCell ⟨v6.heap.size,3,none⟩ (.slice A2 k2 c2)=Y at *;generalize hgxe:v6.heap.size=gx at hbY ⊢;replace hgY:wr.heap.size≤gx:=by rw [← hgxe];exact hgY
      clear hgxe;revert HOF;revert hgY;revert hqY;revert hbY;revert hkY;revert c2;revert k2;revert A2;revert c1;revert k1;revert A1;revert n4;revert n3;revert N2;revert n2;revert n1;revert N1;revert gx;revert Y;exact key.out
    ·(try simp only [p1,p2,p3])
     go_simp;have hk:=And.right ‹_∧Kp wr _›;have hg12:=Below.size hk;have hb12:=blk_hereS hk 42 #[.bool false,.slice none 0 0,.bool false,.slice none 0 0]
     (try simp only [sz_drewS] at hb12 hg12)
     refine hK.out _ _ (by first|exact HS.out _ (Kp.alloc hk _)|exact HS.out _ (Kp.drew (Kp.alloc (Kp.refl wr) _))) fun hH8=>?_;clear hK K hH0
     (try simp only [Act.put,p1,p2,p3,p4,p5,p6])
     refine rd1 6 fun K hK=>?_
     (try simp only [p1,p2,p3])
     go_simp;have hk:=And.right ‹_∧Kp wr _›;refine (TI.out _).mono ?_;rintro e v6 ⟨N1,n1,n2,N2,n3,n4,rfl,hk9,hj9,hW9,hX9,-,-,hbx⟩;have hp:=Kp.trans hk hbx;have r1q:RQ v6 ((sq:Int):Rat) N1 n1 n2 N2 n3 n4:=⟨hk9,hj9,hW9,hX9⟩
     (try replace hb12:=Blk.below hb12 hbx hb12.lt)
     clear hk hbx hk9 hj9 hW9 hX9
     (try (go_wp2_with fail))
     refine hK.out _ _ (HS.out _ hp) fun hH9=>?_;clear hK K hH8
     (try simp only [Act.put,p1,p2,p3,p4,p5,p6])
     refine rd1 7 fun K hK=>?_
     (try simp only [p1,p2,p3])
     go_simp;have hk:=And.right ‹_∧Kp wr _›
     first|refine (TM.out _ hk _ _ _ _ _ _ r1q).mono ?_|refine (TM.out _ hk _ _ _ _ _ _ (RQ.below r1q ((Kp.refl v6).alloc _))).mono ?_
     rintro e v7 ⟨A1,k1,c1,A2,k2,c2,rfl,hk9,hj9,hW9,hX9,hF9,hG9,hbx⟩;have hp:=Kp.trans hk hbx;have r2q:RQ v7 yq A1 k1 c1 A2 k2 c2:=⟨hk9,hj9,hW9,hX9⟩;have HOF:=Hj (And.intro (Off.fresh hF9 (HLT.out _ (Below.size hk))) (Off.fresh hG9 (HLT.out _ (Below.size hk))))
     (try replace hb12:=Blk.below hb12 hbx hb12.lt)
     clear hk hbx hk9 hj9 hW9 hX9 hF9 hG9 r1q
     (try (go_wp2_with fail))
     refine hK.out _ _ (HS.out _ hp) fun hH10=>?_;clear hK K hH9
     (try simp only [Act.put,p1,p2,p3,p4,p5,p6])
     refine rd1 9 fun K hK=>?_;have hk:=And.right ‹_∧Kp wr _›;obtain ⟨_,_,_,_,i0,i1',i2',i3⟩:=hb12.four
     (try simp only [p1,p2,p3])
     go_simp;refine hK.out _ _ (by first|exact HS.out _ (Kp.alloc hp _)|exact HS.out _ (kp_set4 hk hg12 _ _ _ _)) fun hH11=>?_;clear hK K hH10
     (try simp only [Act.put,p1,p2,p3,p4,p5,p6])
     refine wpAnyH_done (by kernel_rfl) ?_ _;clear hH11;have hkY:=kp_set4 hp hg12 (.bool (decide (yq.num<0))) (.slice A1 k1 c1) (.bool false) (.slice A2 k2 c2);have hbY:=(show Blk (qst v7 wr.heap.size 0 (decide (yq.num<0)) false A1 A2 k1 c1 k2 c2) wr.heap.size 42 #[.bool (decide (yq.num<0)),.slice A1 k1 c1,.bool false,.slice A2 k2 c2] from hb12.put4);have hqY:=WQ.put4 (o:=0) (a:=decide (yq.num<0)) (b:=false) (B:=A1) (B':=A2) (j:=k1) (d:=c1) (j':=k2) (d':=c2) r2q hb12 NoInt.four;simp only [qst,Nat.zero_add] at hbY hqY;have hgY:=hg12;clear hk hp hb12 hg12 i0 i1' i2' i3 r2q;generalize (((v7.setCell ⟨wr.heap.size,0,none⟩ (.bool (decide (yq.num<0)))).setCell ⟨wr.heap.size,1,none⟩ (.slice A1 k1 c1)).setCell ⟨wr.heap.size,2,none⟩ (.bool false)).setCell ⟨wr.heap.size,3,none⟩ (.slice A2 k2 c2)=Y at *;generalize hgxe:wr.heap.size=gx at hbY ⊢;replace hgY:wr.heap.size≤gx:=by rw [← hgxe];exact hgY
     clear hgxe;revert HOF;revert hgY;revert hqY;revert hbY;revert hkY;revert c2;revert k2;revert A2;revert c1;revert k1;revert A1;revert n4;revert n3;revert N2;revert n2;revert n1;revert N1;revert gx;revert Y;exact key.out
   case k =>
    intro Y gx N1 n1 n2 N2 n3 n4 A1 k1 c1 A2 k2 c2 hkY hbY hqY hgY HOF;clear TI TM;obtain ⟨f0,f1,f2,f3,-,-,-,-⟩:=hbY.four;have hO1:=(HR.out.2.1.keep hkY).keep ((Kp.refl Y).alloc (.cells #[.bool (decide (yq.num<0)),.slice A1 k1 c1,.bool false,.slice A2 k2 c2] 42));have m1:=Blk.new Y 42 #[.bool (decide (yq.num<0)),.slice A1 k1 c1,.bool false,.slice A2 k2 c2];have s1:Kp wr (Y.alloc (.cells #[.bool (decide (yq.num<0)),.slice A1 k1 c1,.bool false,.slice A2 k2 c2] 42)):=Kp.alloc hkY _;have hs0:V.heap.size≤(Y.alloc (.cells #[.bool (decide (yq.num<0)),.slice A1 k1 c1,.bool false,.slice A2 k2 c2] 42)).heap.size:=Nat.le_trans (Below.size HR.out.1) (Below.size s1);have hne:Ah.map (fun a=>a.block)≠some gx:=fun he=>by
     have:=HR.out.2.1.blk_lt _ he;omega
    have HY:=Hj (And.intro hkY (And.intro hbY (And.intro hqY (And.intro s1 hne))));have hin:i≤3:=by have:=HN3.out;omega
    clear hkY hbY hqY hgY hne
    go_wp2_with (first
     | (at_builtin;refine wpList_append_at rfl (base:=V.heap.size) (e:=42) (size:=4) (bytes:=64) (.tmp 43) (.tmp 45) 46 rfl Tryz.underlying46 HI.out HZ0.out HZ1.out HZ2.out rfl (by decide) (xs:=qCells es) (news:=[.bool (decide (yq.num<0)),.slice A1 k1 c1,.bool false,.slice A2 k2 c2]) rfl (by exact hO1) rfl (by exact Blk.src m1 rfl (qCells_one [(decide (yq.num<0),(A1,k1,c1),(A2,k2,c2))])) (by simp only [maxLen];omega) (by omega) (by exact hs0) ?_
        intro B2 cb2 w2' hO2 hb2 hk2 hs2;have hbg:=(Kp.blk HY.out.2.2.2.1 HBX.out.1).below hb2 HGV.out;have hbx2:=Kept.blk hk2 (HY.out.2.1.alloc _) HY.out.2.2.2.2;obtain ⟨c0,c1',c2',c3,-,-,-,-⟩:=hbg.four;obtain ⟨d0,d1,d2,d3,-,-,-,-⟩:=hbx2.four;have HP:=Hj (And.intro hO2 (And.intro hb2 (And.intro hk2 (And.intro hs2 hbg))));clear hO2 hb2 hk2 hs2 hbg hbx2))
    obtain ⟨hO2,hb2,hk2,hs2,hbg⟩:=HP.out;have ka:=(Kp.refl Y).alloc (.cells #[.bool (decide (yq.num<0)),.slice A1 k1 c1,.bool false,.slice A2 k2 c2] 42);have hyw:RQ w2' yq A1 k1 c1 A2 k2 c2:=by
     have y:=(HY.out.2.2.1).below ka;exact ⟨y.1,y.2.1,y.2.2.1.kept HOF.out.1 hk2,y.2.2.2.kept HOF.out.2 hk2⟩
    have hlw:RQ w2' left A5 k5 c5 A6 k6 c6:=by
     have y:=HBX.out.2.1.below HY.out.2.2.2.1;exact ⟨y.1,y.2.1,y.2.2.1.kept HBX.out.2.2.1 hk2,y.2.2.2.kept HBX.out.2.2.2 hk2⟩
    have hen:QEnts B2 ms w2' (i+1) (es ++ [(decide (yq.num<0),(A1,k1,c1),(A2,k2,c2))]):=by
     have he1:=((HR.out.2.2.below HY.out.1).snoc (by rw [HYQ.out]) (by rw [HYQ.out];exact HY.out.2.2.1) HOF.out.1 HOF.out.2);exact (he1.below ka).app hk2 hs2
    have hbv:Below g V w2':=(HR.out.1.trans (Below.mono HY.out.2.2.2.1 (Nat.le_trans (Nat.le_of_lt HGV.out) (Below.size HR.out.1)))).trans (hb2.mono (Nat.le_of_lt HGV.out));have hon:Own V.heap.size 42 4 w2' B2 (i+1) cb2 (qCells (es ++ [(decide (yq.num<0),(A1,k1,c1),(A2,k2,c2))])):=by
     rw [qCells_append];exact hO2
    have TS:=rsubq_s (s:=7) (by decide) (decide (left.num<0)) false (decide (yq.num<0)) false A5 A6 A1 A2 k5 c5 k6 c6 k1 c1 k2 c2 left yq w2' (hlw.qs HSL.out (by decide)) (hyw.qs HYL.out (by decide));refine TS.mono ?_;rintro e v5 ⟨Q1,q1,q2,Q2,q3,q4,rfl,hk9,hj9,hW9,hX9,hF9,hG9,hbx⟩;have b15:=Kp.blk hbx hbg;obtain ⟨_,_,_,_,f10,f11,f12,f13⟩:=b15.four;have hfin:PyI g V ms (left-yq) (i+1) B2 cb2 (es ++ [(decide (yq.num<0),(A1,k1,c1),(A2,k2,c2))]) ((((v5.setCell ⟨g,0,none⟩ (.bool (decide ((left-yq).num<0)))).setCell ⟨g,1,none⟩ (.slice Q1 q1 q2)).setCell ⟨g,2,none⟩ (.bool false)).setCell ⟨g,3,none⟩ (.slice Q2 q3 q4)):=by
     have hb:Kp w2' v5:=hbx;show PyI g V ms (left-yq) (i+1) B2 cb2 (es ++ [(decide (yq.num<0),(A1,k1,c1),(A2,k2,c2))]) (qst v5 g 0 (decide ((left-yq).num<0)) false Q1 Q2 q1 q2 q3 q4);have r5:RQ v5 (left-yq) Q1 q1 q2 Q2 q3 q4:=⟨hk9,hj9,hW9,hX9⟩;refine ⟨below_qst (hbv.trans (Below.mono hb (Nat.le_trans (Nat.le_of_lt HGV.out) (Below.size hbv)))) (Nat.le_refl _),(hon.keep hb).put4 HGV.out,(hen.below hb).put4 b15 NoInt.four,Q1,q1,q2,Q2,q3,q4,b15.put4,r5.put4 b15 NoInt.four,?_,?_⟩
     ·exact Off.fresh hF9 (fun b hb9=>hon.blk_lt b hb9)
     ·exact Off.fresh hG9 (fun b hb9=>hon.blk_lt b hb9)
    have HF:=Hj hfin;clear hfin hk9 hj9 hW9 hX9 hF9 hG9 hbx b15 hO2 hb2 hk2 hs2 hbg ka hyw hlw hen hbv hon TS HP HY;go_wp2;go_roundw
    case rel=>exact ⟨i+1,B2,cb2,_,by omega,rfl,by first|rfl|go_num,by rw [HSTEP.out];exact HF.out⟩
    case measure=>simp [intOf];omega
  ·obtain rfl:i=n:=by omega
   obtain ⟨r1,r2,r3,-⟩:=HR0.out;have HF:=Hj (And.intro (r2.qs (ps:=ms) HMS.out r3) (HV.out.1.trans (r1.mono HV.out.2.1)));clear HR0 r1 r2 r3;go_wp2;go_ret2;exact ⟨Ah,ch,rfl,by rw [HME.out];exact HF.out.1,HF.out.2⟩
end Go.Proofs.YtjajigkacccdgaaGreat
