/-
Lemmas of the walk; no further conditions.
-/
import Derived.Test.YtjajigkacccdgaaGreatTfBE
set_option linter.unusedVariables false
set_option linter.unusedSimpArgs false
set_option maxRecDepth 100000
set_option maxHeartbeats 16000000
namespace Go.Proofs.YtjajigkacccdgaaGreat
open Go.RowKit
open Wd
theorem wor2_zero (os bs:List (List (Int×Int))) (gs ts:List Rat) (n:Nat):wor2 os bs gs ts n 0=wor1 os gs n:=by
 have h:moneyA bs ts 0=0:=rfl;unfold wor2 wor1;rw [h];grind
theorem lef2_zero (gs ts:List Rat) (n:Nat):lef2 gs ts n 0=qtyA gs n:=by
 have h:qtyA ts 0=0:=rfl;unfold lef2;rw [h];grind
theorem sgnQ_zero {q:Rat} (h:sgnQ q=0):q=0:=by
 unfold sgnQ at h;have h1:q.num=0:=by
  rcases Int.lt_trichotomy q.num 0 with h2|h2|h2
  ·rw [cmpI_lt h2] at h;exact absurd h (by decide)
  ·exact h2
  ·rw [cmpI_gt h2] at h;exact absurd h (by decide)
 exact Rat.num_eq_zero.1 h1
theorem rint_zero (W:World) (x:Rat) (hx:x=0):Calls Tryz.prog 37 #[.int .i64 0] W (RetQ W x):=by
 subst hx;exact rint_any 0 W (by decide) (by decide)
theorem rwelfare_main (A B G H:Option Addr) (n c k d gn gc hn hc:Nat) (os bs:List (List (Int×Int))) (gs ts:List Rat) (w:World) (h:CsAt w A n os) (h':CsAt w B k bs) (hg:QsS 7 w G gn gs) (ht:QsS 7 w H hn ts) (hc0:ckB os bs=0) (hl1:gn=n) (hl2:hn=k):Calls Tryz.prog 59 #[.slice A n c,.slice B k d,.slice G gn gc,.slice H hn hc] w (RWelP w os bs gs ts):=by
 obtain ⟨l1,l2,k3,k4⟩:=ckB_iff.1 hc0;have T0:=Hj (fun W (hW:Below w.heap.size w W)=>rwrong25_any A B n c k d os bs W (h.below hW) (h'.below hW));rw [hc0] at T0;have HC0:=Hj hc0;subst hl1;subst hl2;have HL1:=Hj (show gs.length=os.length by rw [hg.1,h.1]);have HL2:=Hj (show ts.length=bs.length by rw [ht.1,h'.1]);have HKA:=Hj (show ∀ j,j<gn→curveE (os[j]?.getD [])=0 from fun j hj=>curve_good (k3 _ (getD_mem (d:=[]) (by have:=h.1;omega))));have HKB:=Hj (show ∀ j,j<hn→curveE (bs[j]?.getD [])=0 from fun j hj=>curve_good (k4 _ (getD_mem (d:=[]) (by have:=h'.1;omega))));have hn5:gn≤5:=by have:=h.1;omega
 have hn6:hn≤6:=by have:=h'.1;omega
 have hlq1:∀ j,j<gn→Ls 7 (gs[j]?.getD 0):=by
  obtain ⟨es,_,hw⟩:=hg.raw;exact fun j hj=>(hw j hj).ls
 have hlq2:∀ j,j<hn→Ls 7 (ts[j]?.getD 0):=by
  obtain ⟨es,_,hw⟩:=ht.raw;exact fun j hj=>(hw j hj).ls
 have HLQ1:=Hj hlq1;have HLQ2:=Hj hlq2;have HLS1:=Hj (fun i (hi:i≤gn)=>(qtyA_ls HLQ1.out i hi).mono (show i*(7+1)+1≤50 by omega));have HLS2:=Hj (fun i (hi:i≤hn)=>(show Ls 200 (lef2 gs ts gn i) from (Ls.sub (HLS1.out gn (Nat.le_refl _)) ((qtyA_ls HLQ2.out i hi).mono (show i*(7+1)+1≤50 by omega))).mono (by decide)));have HLM1:=Hj (fun i (hi:i≤gn) (h0:∀ j,j<i→0≤gs[j]?.getD 0)=>(show Ls 300 (wor1 os gs i) from ((moneyA_ls (n:=i) (s:=7) (by decide) (fun j hj=>HKA.out j (by omega)) h0 (fun j hj=>HLQ1.out j (by omega)) i (Nat.le_refl _)).mono (show i*(3*(7+6)+2)+1≤300 by omega)).neg));have HLM2:=Hj (fun (hga:∀ j,j<gn→0≤gs[j]?.getD 0) i (hi:i≤hn) (h0:∀ j,j<i→0≤ts[j]?.getD 0)=>(show Ls 800 (wor2 os bs gs ts gn i) from (Ls.sub ((moneyA_ls (n:=i) (s:=7) (by decide) (fun j hj=>HKB.out j (by omega)) h0 (fun j hj=>HLQ2.out j (by omega)) i (Nat.le_refl _)).mono (show i*(3*(7+6)+2)+1≤300 by omega)) ((moneyA_ls (n:=gn) (s:=7) (by decide) HKA.out hga HLQ1.out gn (Nat.le_refl _)).mono (show gn*(3*(7+6)+2)+1≤300 by omega))).mono (by decide)));have H0a:=Hj (fun W=>rint_zero W (wor1 os gs 0) (by have h0:moneyA os gs 0=0:=rfl;unfold wor1;rw [h0];rfl));have H0b:=Hj (fun W=>rint_zero W (qtyA gs 0) rfl);have HQL:=Hj hg.1;have HX:=Hj h;have HX':=Hj h';have HQG:=Hj hg;have HQH:=Hj ht;have b1:((gn:Int) != (gn:Int))=false:=by simp
 have b2:((hn:Int) != (hn:Int))=false:=by simp
 clear h h' hg ht hc0 l1 l2 k3 k4 hlq1 hlq2;go_enter Tryz.func59,Tryz.ntmps59
 go_wp2_with fail
 have bx8:=Blk.new w 42 #[.bool false,.slice none 0 0,.bool false,.slice none 0 0];have hb0:Below w.heap.size w (w.alloc (.cells #[.bool false,.slice none 0 0,.bool false,.slice none 0 0] 42)):=(Below.refl _ _).alloc (Nat.le_refl _) _;generalize w.alloc (.cells #[.bool false,.slice none 0 0,.bool false,.slice none 0 0] 42)=W0 at *;refine (T0.out W0 hb0).mono ?_;rintro e w1 ⟨rfl,hb1⟩;have HB1:=Hj (hb0.trans (hb1.mono hb0.size));have HX8:=Hj (bx8.below hb1 bx8.lt);clear bx8 hb0 hb1 T0
 go_wp2_with fail
 refine (H0a.out w1).mono ?_;rintro e w5 ⟨A5,k5,c5,A6,k6,c6,rfl,hk5,hk6,hW5,hW6,hF5,hF6,hb5⟩;have hq5:CQ w.heap.size w5 (wor1 os gs 0) A5 k5 c5 A6 k6 c6:=⟨hk5,hk6,hW5,hW6,hF5.mono HB1.out.size,hF6.mono HB1.out.size⟩;have HB5:=Hj (HB1.out.trans (hb5.mono HB1.out.size));have HX5:=Hj (HX8.out.below hb5 HX8.out.lt);clear hk5 hk6 hW5 hW6 hF5 hF6 hb5 H0a HX8
 go_wp2_with fail
 refine (H0b.out w5).mono ?_;rintro e w6 ⟨A7,k7,c7,A8,k8,c8,rfl,hk7,hk8,hW7,hW8,hF7,hF8,hb6⟩;have hq7:CQ w.heap.size w6 (qtyA gs 0) A7 k7 c7 A8 k8 c8:=⟨hk7,hk8,hW7,hW8,hF7.mono HB5.out.size,hF8.mono HB5.out.size⟩;have hB6:=HB5.out.trans (hb6.mono HB5.out.size);have hq6:=hq5.below hb6;have hx6:=HX5.out.below hb6 HX5.out.lt;have k2:=((Kp.refl w6).alloc (.cells #[.bool (decide ((wor1 os gs 0).num<0)),.slice A5 k5 c5,.bool false,.slice A6 k6 c6] 42)).alloc (.cells #[.bool (decide ((qtyA gs 0).num<0)),.slice A7 k7 c7,.bool false,.slice A8 k8 c8] 42);have b9:=(Blk.new w6 42 #[.bool (decide ((wor1 os gs 0).num<0)),.slice A5 k5 c5,.bool false,.slice A6 k6 c6]).alloc (.cells #[.bool (decide ((qtyA gs 0).num<0)),.slice A7 k7 c7,.bool false,.slice A8 k8 c8] 42);have b10:=Blk.new (w6.alloc (.cells #[.bool (decide ((wor1 os gs 0).num<0)),.slice A5 k5 c5,.bool false,.slice A6 k6 c6] 42)) 42 #[.bool (decide ((qtyA gs 0).num<0)),.slice A7 k7 c7,.bool false,.slice A8 k8 c8];simp only [World.size_alloc] at b10;have HT0:=Hj (show TotR w w6.heap.size (w6.heap.size+1) (wor1 os gs 0) (qtyA gs 0) A5 k5 c5 A6 k6 c6 A7 k7 c7 A8 k8 c8 ((w6.alloc (.cells #[.bool (decide ((wor1 os gs 0).num<0)),.slice A5 k5 c5,.bool false,.slice A6 k6 c6] 42)).alloc (.cells #[.bool (decide ((qtyA gs 0).num<0)),.slice A7 k7 c7,.bool false,.slice A8 k8 c8] 42)) from ⟨hB6.trans (Below.mono k2 hB6.size),b9,hq6.below k2,b10,hq7.below k2⟩);have HG9:=Hj (show w.heap.size<w6.heap.size from hx6.lt);have HX6:=Hj hx6;have HKW:=Hj (show Kp w6 ((w6.alloc (.cells #[.bool (decide ((wor1 os gs 0).num<0)),.slice A5 k5 c5,.bool false,.slice A6 k6 c6] 42)).alloc (.cells #[.bool (decide ((qtyA gs 0).num<0)),.slice A7 k7 c7,.bool false,.slice A8 k8 c8] 42)) from k2);clear hk7 hk8 hW7 hW8 hF7 hF8 hb6 H0b hq5 hq6 hq7 b9 b10 k2 hB6 HB5 HX5 hx6
 go_wp2_with fail
 generalize (w6.alloc (.cells #[.bool (decide ((wor1 os gs 0).num<0)),.slice A5 k5 c5,.bool false,.slice A6 k6 c6] 42)).alloc (.cells #[.bool (decide ((qtyA gs 0).num<0)),.slice A7 k7 c7,.bool false,.slice A8 k8 c8] 42)=V at *;have HG4:=Hj (Nat.le_refl w6.heap.size);generalize hg9e:w6.heap.size=g9 at HT0 ⊢;have HGE:=Hj hg9e;rw [hg9e] at HG4 HG9;have HG5:=Hj (show w6.heap.size≤g9 from Nat.le_of_eq hg9e);clear hg9e HG4
 go_loopw [13] (fun t wr=>∃ (i:Nat) (P1:Option Addr) (j1 d1:Nat) (P2:Option Addr) (j2 d2:Nat) (R1:Option Addr) (j3 d3:Nat) (R2:Option Addr) (j4 d4:Nat),i≤gn∧t=.int .i64 i∧Hid (TotR w g9 (g9+1) (wor1 os gs i) (qtyA gs i) P1 j1 d1 P2 j2 d2 R1 j3 d3 R2 j4 d4 wr)∧Hid (Below w6.heap.size w6 wr)∧Hid (∀ j,j<i→0≤gs[j]?.getD 0∧gs[j]?.getD 0≤((qsum (os[j]?.getD []):Int):Rat))) (fun t _=>gn-(intOf t).toNat)
 case atStart=>exact ⟨0,A5,k5,c5,A6,k6,c6,A7,k7,c7,A8,k8,c8,Nat.zero_le _,rfl,HT0.out,HKW.out,fun j hj=>absurd hj (by omega)⟩
 case round =>
  clear HT0 HKW;obtain ⟨i,P1,j1,d1,P2,j2,d2,R1,j3,d3,R2,j4,d4,hi,rfl,HT,HKW,HGD⟩:=hrel;obtain ⟨wz,rfl⟩:∃ u,u=wr:=⟨_,rfl⟩;by_cases hlt:i<gn
  ·obtain ⟨b,o,rfl,hbr,hc1⟩:=(HX.out.below HT.out.1).2 (by omega);obtain ⟨A',n',c',hcl,hst⟩:=hc1 i hlt;obtain ⟨b2,o2,rfl,hbr2,hc2⟩:=(HQG.out.below HT.out.1).2 (by omega);obtain ⟨an,aA,ak,ac,an',aA',ak',ac',y0,y1,y2,y3,hqs⟩:=hc2 i hlt;have hce:=HKA.out i hlt;have e':n'=(os[i]?.getD []).length:=hst.1.symm;have i1:(0:Int)≤(i:Int):=by omega
   have i2:(i:Int)<(gn:Int):=by omega
   by_cases hgd:0≤gs[i]?.getD 0∧gs[i]?.getD 0≤((qsum (os[i]?.getD []):Int):Rat)
   ·have TCO:=Hj (fun W (hW:Kp wz W)=>rcost_ok A' n' c' _ W (hst.below hW) hce an an' aA aA' ak ac ak' ac' _ (hqs.below hW) hgd.1 hgd.2);have HQS:=Hj hqs;have hcol:=(cost_ls (s:=7) (by decide) hce hgd.1 (HLQ1.out i hlt));rw [← e'] at hcol;have HGI:=Hj hgd;have HNM:=Hj (show wor1 os gs (i+1)=wor1 os gs i-costAt (os[i]?.getD []) (gs[i]?.getD 0) n' from by rw [e'];exact wor1_succ os gs i);have HNQ:=Hj (show qtyA gs (i+1)=qtyA gs i+gs[i]?.getD 0 from qtyA_succ gs i);have HCOL:=Hj hcol;generalize costAt (os[i]?.getD []) (gs[i]?.getD 0) n'=co at *;clear hc1 hc2 hst hqs hce hgd hcol e';have hne1:g9≠g9+1:=by omega
    have hne2:g9+1≠g9:=by omega
    have HGM:=Hj (Nat.le_of_lt HG9.out);have HGQ:=Hj (show w.heap.size≤g9+1 by have:=HG9.out;omega);have HSQ0:=Hj (HLS1.out i hi);have HSM0:=Hj (HLM1.out i hi (fun j hj=>(HGD.out j hj).1))
    go_wp2_with fail
    apply join_at
    case h =>
     intro key;refine held_at (W:=wz) (C:=fun w'=>w'.cell? ⟨b,o+i,none⟩=some (.slice A' n' c')∧w'.cell? ⟨b2,o2+i*4,none⟩=some (.bool an)∧w'.cell? ⟨b2,o2+i*4+1,none⟩=some (.slice aA ak ac)∧w'.cell? ⟨b2,o2+i*4+2,none⟩=some (.bool an')∧w'.cell? ⟨b2,o2+i*4+3,none⟩=some (.slice aA' ak' ac')) (fun w' hk=>⟨(Below.cell hk (p:=⟨b,_,none⟩) hbr).trans hcl,(Below.cell hk (p:=⟨b2,_,none⟩) hbr2).trans y0,(Below.cell hk (p:=⟨b2,_,none⟩) hbr2).trans y1,(Below.cell hk (p:=⟨b2,_,none⟩) hbr2).trans y2,(Below.cell hk (p:=⟨b2,_,none⟩) hbr2).trans y3⟩) (Kp.refl wz) (fun HS10 hH0=>?_);refine tq 0 ?_;refine tq 1 ?_;refine tq 2 ?_;refine tq 3 ?_;refine tq 4 ?_;refine tq 5 ?_;refine tq 6 ?_;refine tq 7 ?_;refine rd2 8 12 (fun K hK=>?_) (fun K hK=>?_)
     ·(try simp only [p1,p2,p3])
      go_simp;have hk:=And.right ‹_∧Kp wz _›;refine (TCO.out _ hk).mono ?_;rintro e v8 ⟨N8,n8,o8,M8,p8,s8,rfl,hcq,hbx⟩;have hp:Kp wz v8:=Kp.trans hk hbx
      (try replace hb12:=Blk.below hb12 hbx hb12.lt)
      have h8r:=hcq.wq;clear hcq;clear hk hbx
      (try (go_wp2_with fail))
      refine hK.out _ _ (HS10.out _ hp) fun hH1=>?_;clear hK K hH0
      (try simp only [Act.put,p1,p2,p3,p4,p5,p6])
      refine tq 9 ?_;refine tq 10 ?_;refine tq 11 ?_;refine rd1 12 fun K hK=>?_
      (try simp only [p1,p2,p3])
      go_simp;have hk:=And.right ‹_∧Kp wz _›;have hg12:=Below.size hk;have hb12:=blk_hereS hk 42 #[.bool false,.slice none 0 0,.bool false,.slice none 0 0]
      (try simp only [sz_drewS] at hb12 hg12)
      refine hK.out _ _ (by first|exact HS10.out _ (Kp.alloc hk _)|exact HS10.out _ (Kp.drew (Kp.alloc (Kp.refl wz) _))) fun hH2=>?_;clear hK K hH1
      (try simp only [Act.put,p1,p2,p3,p4,p5,p6])
      refine rd1 13 fun K hK=>?_;have hk:=And.right ‹_∧Kp wz _›;obtain ⟨_,_,_,_,i0,i1',i2',i3⟩:=hb12.four
      (try simp only [p1,p2,p3])
      go_simp;refine hK.out _ _ (by first|exact HS10.out _ (Kp.alloc hp _)|exact HS10.out _ (kp_set4 hk hg12 _ _ _ _)) fun hH3=>?_;clear hK K hH2
      (try simp only [Act.put,p1,p2,p3,p4,p5,p6])
      refine tq 14 ?_;refine wpAnyH_done (by kernel_rfl) ?_ _;clear hH3;have hkY:=Kp.alloc hp (.cells #[.bool (decide (co.num<0)),.slice N8 n8 o8,.bool false,.slice M8 p8 s8] 42);have hbY:=Blk.new v8 42 #[.bool (decide (co.num<0)),.slice N8 n8 o8,.bool false,.slice M8 p8 s8];have hqY:=WQ.below h8r ((Kp.refl v8).alloc (.cells #[.bool (decide (co.num<0)),.slice N8 n8 o8,.bool false,.slice M8 p8 s8] 42));clear hk hp hb12 hg12 i0 i1' i2' i3 h8r;generalize v8.alloc (.cells #[.bool (decide (co.num<0)),.slice N8 n8 o8,.bool false,.slice M8 p8 s8] 42)=Y at *;generalize v8.heap.size=g12 at hbY ⊢;revert hqY;revert hbY;revert hkY;revert s8;revert p8;revert M8;revert o8;revert n8;revert N8;revert g12;revert Y;exact key.out
     ·(try simp only [p1,p2,p3])
      go_simp;have hk:=And.right ‹_∧Kp wz _›;have hg12:=Below.size hk;have hb12:=blk_hereS hk 42 #[.bool false,.slice none 0 0,.bool false,.slice none 0 0]
      (try simp only [sz_drewS] at hb12 hg12)
      refine hK.out _ _ (by first|exact HS10.out _ (Kp.alloc hk _)|exact HS10.out _ (Kp.drew (Kp.alloc (Kp.refl wz) _))) fun hH4=>?_;clear hK K hH0
      (try simp only [Act.put,p1,p2,p3,p4,p5,p6])
      refine rd1 8 fun K hK=>?_
      (try simp only [p1,p2,p3])
      go_simp;have hk:=And.right ‹_∧Kp wz _›;refine (TCO.out _ hk).mono ?_;rintro e v8 ⟨N8,n8,o8,M8,p8,s8,rfl,hcq,hbx⟩;have hp:Kp wz v8:=Kp.trans hk hbx
      (try replace hb12:=Blk.below hb12 hbx hb12.lt)
      have h8r:=hcq.wq;clear hcq;clear hk hbx
      (try (go_wp2_with fail))
      refine hK.out _ _ (HS10.out _ hp) fun hH5=>?_;clear hK K hH4
      (try simp only [Act.put,p1,p2,p3,p4,p5,p6])
      refine tq 9 ?_;refine tq 10 ?_;refine tq 11 ?_;refine rd1 13 fun K hK=>?_;have hk:=And.right ‹_∧Kp wz _›;obtain ⟨_,_,_,_,i0,i1',i2',i3⟩:=hb12.four
      (try simp only [p1,p2,p3])
      go_simp;refine hK.out _ _ (by first|exact HS10.out _ (Kp.alloc hp _)|exact HS10.out _ (kp_set4 hk hg12 _ _ _ _)) fun hH6=>?_;clear hK K hH5
      (try simp only [Act.put,p1,p2,p3,p4,p5,p6])
      refine tq 14 ?_;refine wpAnyH_done (by kernel_rfl) ?_ _;clear hH6;have hkY:=kp_set4 hp hg12 (.bool (decide (co.num<0))) (.slice N8 n8 o8) (.bool false) (.slice M8 p8 s8);have hbY:=(show Blk (qst v8 wz.heap.size 0 (decide (co.num<0)) false N8 M8 n8 o8 p8 s8) wz.heap.size 42 #[.bool (decide (co.num<0)),.slice N8 n8 o8,.bool false,.slice M8 p8 s8] from hb12.put4);have hqY:=WQ.put4 (o:=0) (a:=decide (co.num<0)) (b:=false) (B:=N8) (B':=M8) (j:=n8) (d:=o8) (j':=p8) (d':=s8) h8r hb12 NoInt.four;simp only [qst,Nat.zero_add] at hbY hqY;clear hk hp hb12 hg12 i0 i1' i2' i3 h8r;generalize (((v8.setCell ⟨wz.heap.size,0,none⟩ (.bool (decide (co.num<0)))).setCell ⟨wz.heap.size,1,none⟩ (.slice N8 n8 o8)).setCell ⟨wz.heap.size,2,none⟩ (.bool false)).setCell ⟨wz.heap.size,3,none⟩ (.slice M8 p8 s8)=Y at *;generalize hg12e:wz.heap.size=g12 at hbY ⊢;clear hg12e;revert hqY;revert hbY;revert hkY;revert s8;revert p8;revert M8;revert o8;revert n8;revert N8;revert g12;revert Y;exact key.out
    case k =>
     intro Y g12 N8 n8 o8 M8 p8 s8 hkY hbY hqY;clear TCO;have HTY:=Hj (HT.out.call hkY);have HKY:=Hj (HKW.out.trans (Below.mono hkY HKW.out.size));have HBY:=Hj hbY;have HCO:=Hj hqY;have z0:=(Below.cell hkY (p:=⟨b2,_,none⟩) hbr2).trans y0;have z1:=(Below.cell hkY (p:=⟨b2,_,none⟩) hbr2).trans y1;have z2:=(Below.cell hkY (p:=⟨b2,_,none⟩) hbr2).trans y2;have z3:=(Below.cell hkY (p:=⟨b2,_,none⟩) hbr2).trans y3;have hbY2:b2<Y.heap.size:=Nat.lt_of_lt_of_le hbr2 (Below.size hkY);have HQY:=Hj (HQS.out.below hkY);have TQ1:=Hj (fun (W:World) (hW:Kp Y W)=>raddq_s (s:=1000) (by decide) _ _ _ _ _ _ _ _ _ _ _ _ _ _ _ _ _ _ W (RQ.qs (WQ.below HTY.out.2.2.2.2.wq hW) (HSQ0.out.mono (by decide)) (by decide)) ((HQY.out.below hW).mono (by decide)));have TM1:=Hj (fun (W:World) (hW:Kp Y W)=>rsubq_s (s:=1000) (by decide) _ _ _ _ _ _ _ _ _ _ _ _ _ _ _ _ _ _ W (RQ.qs (WQ.below HTY.out.2.2.1.wq hW) (HSM0.out.mono (by decide)) (by decide)) (RQ.qs (WQ.below HCO.out hW) (HCOL.out.mono (by decide)) (by decide)));rw [← HNQ.out] at TQ1;rw [← HNM.out] at TM1;generalize hsqe:qtyA gs (i+1)=sq' at *;generalize hsme:wor1 os gs (i+1)=sm' at *;have HSQ1:=Hj hsqe;have HSM1:=Hj hsme;generalize qtyA gs i=sq at *;generalize wor1 os gs i=sm at *;clear hsqe hsme hbY hqY HT HKW HQS HSQ0 HSM0 hkY HCO y0 y1 y2 y3 hcl hbr hbr2
     go_wp2_with fail
     refine held_front (W:=Y) (C:=fun w'=>w'.cell? ⟨g9+1,0,none⟩=some (.bool (decide (sq.num<0)))∧w'.cell? ⟨g9+1,1,none⟩=some (.slice R1 j3 d3)∧w'.cell? ⟨g9+1,2,none⟩=some (.bool false)∧w'.cell? ⟨g9+1,3,none⟩=some (.slice R2 j4 d4)∧w'.cell? ⟨g9,0,none⟩=some (.bool (decide (sm.num<0)))∧w'.cell? ⟨g9,1,none⟩=some (.slice P1 j1 d1)∧w'.cell? ⟨g9,2,none⟩=some (.bool false)∧w'.cell? ⟨g9,3,none⟩=some (.slice P2 j2 d2)∧w'.cell? ⟨g12,0,none⟩=some (.bool (decide (co.num<0)))∧w'.cell? ⟨g12,1,none⟩=some (.slice N8 n8 o8)∧w'.cell? ⟨g12,2,none⟩=some (.bool false)∧w'.cell? ⟨g12,3,none⟩=some (.slice M8 p8 s8)∧w'.cell? ⟨b2,o2+i*4,none⟩=some (.bool an)∧w'.cell? ⟨b2,o2+i*4+1,none⟩=some (.slice aA ak ac)∧w'.cell? ⟨b2,o2+i*4+2,none⟩=some (.bool an')∧w'.cell? ⟨b2,o2+i*4+3,none⟩=some (.slice aA' ak' ac')) 9 2 (fun w' hk=>⟨(Kp.blk hk HTY.out.2.2.2.1).cell 0,(Kp.blk hk HTY.out.2.2.2.1).cell 1,(Kp.blk hk HTY.out.2.2.2.1).cell 2,(Kp.blk hk HTY.out.2.2.2.1).cell 3,(Kp.blk hk HTY.out.2.1).cell 0,(Kp.blk hk HTY.out.2.1).cell 1,(Kp.blk hk HTY.out.2.1).cell 2,(Kp.blk hk HTY.out.2.1).cell 3,(Kp.blk hk HBY.out).cell 0,(Kp.blk hk HBY.out).cell 1,(Kp.blk hk HBY.out).cell 2,(Kp.blk hk HBY.out).cell 3,(Below.cell hk (p:=⟨b2,_,none⟩) hbY2).trans z0,(Below.cell hk (p:=⟨b2,_,none⟩) hbY2).trans z1,(Below.cell hk (p:=⟨b2,_,none⟩) hbY2).trans z2,(Below.cell hk (p:=⟨b2,_,none⟩) hbY2).trans z3⟩) (Kp.refl Y) (fun HS13 hH0=>?_);refine tq 0 ?_;refine tq 1 ?_;refine tq 3 ?_;refine tq 4 ?_;refine tq 5 ?_;refine tq 6 ?_;refine tq 7 ?_;refine rd1 2 fun K hK=>?_
     (try simp only [p1,p2,p3])
     go_simp;have hk:=And.right ‹_∧Kp Y _›;refine (TM1.out _ hk).mono ?_;rintro e v5 ⟨Xa1,xa2,xa3,Xa4,xa5,xa6,rfl,hk1,hk2,hW1,hW2,hF1,hF2,hbx⟩;have hp:Kp Y v5:=Kp.trans hk hbx;have hszz:=Nat.le_trans HTY.out.1.size (Below.size hk);have cqa:CQ w.heap.size v5 sm' Xa1 xa2 xa3 Xa4 xa5 xa6:=⟨hk1,hk2,hW1,hW2,hF1.mono hszz,hF2.mono hszz⟩;clear hk hbx hk1 hk2 hW1 hW2 hF1 hF2 hszz
     (try (go_wp2_with fail))
     refine hK.out _ _ (HS13.out _ hp) fun hH7=>?_;clear hK K hH0
     (try simp only [Act.put,p1,p2,p3,p4,p5,p6])
     refine rd1 8 fun K hK=>?_
     (try simp only [p1,p2,p3])
     go_simp;have hk:=And.right ‹_∧Kp Y _›;refine (TQ1.out _ hk).mono ?_;rintro e v8 ⟨Xb1,xb2,xb3,Xb4,xb5,xb6,rfl,hk1,hk2,hW1,hW2,hF1,hF2,hbx⟩;have hp:Kp Y v8:=Kp.trans hk hbx;have hszz:=Nat.le_trans HTY.out.1.size (Below.size hk);have cqb:CQ w.heap.size v8 sq' Xb1 xb2 xb3 Xb4 xb5 xb6:=⟨hk1,hk2,hW1,hW2,hF1.mono hszz,hF2.mono hszz⟩
     (try replace cqa:=cqa.below hbx)
     clear hk hbx hk1 hk2 hW1 hW2 hF1 hF2 hszz
     (try (go_wp2_with fail))
     refine hK.out _ _ (HS13.out _ hp) fun hH8=>?_;clear hK K hH7
     (try simp only [Act.put,p1,p2,p3,p4,p5,p6])
     refine wpAnyH_done (by kernel_rfl) ?_ _;clear hH8;unfold Qfr;dsimp only;have hbq:=Kp.blk hp HTY.out.2.2.2.1;have hbm:=Kp.blk hp HTY.out.2.1;obtain ⟨_,_,_,_,f10,f11,f12,f13⟩:=hbq.four;obtain ⟨_,_,_,_,f20,f21,f22,f23⟩:=hbm.four;refine wpAny_ready (rs:=[9]) (by kernel_rfl) (by simp) ?_;refine AllReady.cons rfl (fun K hK=>?_) AllReady.nil
     (try simp only [p1,p2,p3])
     go_simp;refine hK _ _ ?_;clear hK K
     (try simp only [Act.put,p1,p2,p3,p4,p5,p6])
     refine wpAny_ready (rs:=[10]) (by kernel_rfl) (by simp) ?_;refine AllReady.cons rfl (fun K hK=>?_) AllReady.nil
     (try simp only [p1,p2,p3])
     go_simp;refine hK _ _ ?_;clear hK K
     (try simp only [Act.put,p1,p2,p3,p4,p5,p6])
     refine wpAny_done (by kernel_rfl) ?_ _;have hp9:TotR w (g9) (g9+1) sm' sq' Xa1 xa2 xa3 Xa4 xa5 xa6 Xb1 xb2 xb3 Xb4 xb5 xb6 (((((((((v8.setCell ⟨g9,0,none⟩ (.bool (decide ((sm').num<0)))).setCell ⟨g9,1,none⟩ (.slice Xa1 xa2 xa3)).setCell ⟨g9,2,none⟩ (.bool false)).setCell ⟨g9,3,none⟩ (.slice Xa4 xa5 xa6)).setCell ⟨g9+1,0,none⟩ (.bool (decide ((sq').num<0)))).setCell ⟨g9+1,1,none⟩ (.slice Xb1 xb2 xb3)).setCell ⟨g9+1,2,none⟩ (.bool false)).setCell ⟨g9+1,3,none⟩ (.slice Xb4 xb5 xb6))):=((HTY.out.call hp).put1 (m2:=sm') HGM.out hne2 cqa).put2 (s2:=sq') HGQ.out hne1 (cqb.put4 (o:=0) (a:=decide (sm'.num<0)) (b:=false) (B:=Xa1) (B':=Xa4) (j:=xa2) (d:=xa3) (j':=xa5) (d':=xa6) hbm NoInt.four);have hk9:Below w6.heap.size w6 (((((((((v8.setCell ⟨g9,0,none⟩ (.bool (decide ((sm').num<0)))).setCell ⟨g9,1,none⟩ (.slice Xa1 xa2 xa3)).setCell ⟨g9,2,none⟩ (.bool false)).setCell ⟨g9,3,none⟩ (.slice Xa4 xa5 xa6)).setCell ⟨g9+1,0,none⟩ (.bool (decide ((sq').num<0)))).setCell ⟨g9+1,1,none⟩ (.slice Xb1 xb2 xb3)).setCell ⟨g9+1,2,none⟩ (.bool false)).setCell ⟨g9+1,3,none⟩ (.slice Xb4 xb5 xb6))):=(show Below w6.heap.size w6 (qst (qst v8 (g9) 0 (decide (sm'.num<0)) false Xa1 Xa4 xa2 xa3 xa5 xa6) (g9+1) 0 (decide (sq'.num<0)) false Xb1 Xb4 xb2 xb3 xb5 xb6) from below_qst (below_qst (HKY.out.trans (Below.mono hp HKY.out.size)) (by have:=HG5.out;omega)) (by have:=HG5.out;omega));generalize ((((((((v8.setCell ⟨g9,0,none⟩ (.bool (decide ((sm').num<0)))).setCell ⟨g9,1,none⟩ (.slice Xa1 xa2 xa3)).setCell ⟨g9,2,none⟩ (.bool false)).setCell ⟨g9,3,none⟩ (.slice Xa4 xa5 xa6)).setCell ⟨g9+1,0,none⟩ (.bool (decide ((sq').num<0)))).setCell ⟨g9+1,1,none⟩ (.slice Xb1 xb2 xb3)).setCell ⟨g9+1,2,none⟩ (.bool false)).setCell ⟨g9+1,3,none⟩ (.slice Xb4 xb5 xb6))=Y9 at *;have HF:=Hj hp9;have HK9:=Hj hk9;clear hp9 hk9 cqa cqb hp hbq hbm f10 f11 f12 f13 f20 f21 f22 f23 TQ1 TM1 HS13 HQY HBY HKY HTY z0 z1 z2 z3 hbY2;have HGD2:=Hj (show ∀ j,j<i+1→0≤gs[j]?.getD 0∧gs[j]?.getD 0≤((qsum (os[j]?.getD []):Int):Rat) from fun j hj=>by
      by_cases hji:j<i
      ·exact HGD.out j hji
      ·obtain rfl:j=i:=by omega
       exact HGI.out)
     clear HGD HGI HNM HNQ HCOL
     go_wp2_with fail
     go_roundw
     case rel=>exact ⟨i+1,Xa1,xa2,xa3,Xa4,xa5,xa6,Xb1,xb2,xb3,Xb4,xb5,xb6,by omega,by first|rfl|go_num,by rw [HSM1.out,HSQ1.out];exact HF,HK9,HGD2⟩
     case measure=>simp [intOf];omega
   ·have TCO:=Hj (fun W (hW:Kp wz W)=>rcost_of A' n' c' 1 W an an' aA aA' ak ac ak' ac' (fun W2 hW2=>ralloc_no A' n' c' _ W2 ((hst.below hW).below hW2) hce an an' aA aA' ak ac ak' ac' _ ((hqs.below hW).below hW2) (by
     by_cases h0:gs[i]?.getD 0<0
     ·exact Or.inl h0
     ·refine Or.inr ?_;have:¬ gs[i]?.getD 0≤((qsum (os[i]?.getD []):Int):Rat):=fun hh=>hgd ⟨by grind,hh⟩;grind)))
    have HBAD:=Hj (wfE_3 HC0.out HL1.out HL2.out (Or.inl (fun hgo=>hgd (hgo i (by have:=HX.out.1;omega)))));clear hc1 hc2 hst hqs hce hgd e' HGD;unfold RErrQ at TCO
    go_wp2_with fail
    apply join_at
    case h =>
     intro key;refine held_at (W:=wz) (C:=fun w'=>w'.cell? ⟨b,o+i,none⟩=some (.slice A' n' c')∧w'.cell? ⟨b2,o2+i*4,none⟩=some (.bool an)∧w'.cell? ⟨b2,o2+i*4+1,none⟩=some (.slice aA ak ac)∧w'.cell? ⟨b2,o2+i*4+2,none⟩=some (.bool an')∧w'.cell? ⟨b2,o2+i*4+3,none⟩=some (.slice aA' ak' ac')) (fun w' hk=>⟨(Below.cell hk (p:=⟨b,_,none⟩) hbr).trans hcl,(Below.cell hk (p:=⟨b2,_,none⟩) hbr2).trans y0,(Below.cell hk (p:=⟨b2,_,none⟩) hbr2).trans y1,(Below.cell hk (p:=⟨b2,_,none⟩) hbr2).trans y2,(Below.cell hk (p:=⟨b2,_,none⟩) hbr2).trans y3⟩) (Kp.refl wz) (fun HS10 hH0=>?_);refine tq 0 ?_;refine tq 1 ?_;refine tq 2 ?_;refine tq 3 ?_;refine tq 4 ?_;refine tq 5 ?_;refine tq 6 ?_;refine tq 7 ?_;refine rd2 8 12 (fun K hK=>?_) (fun K hK=>?_)
     ·(try simp only [p1,p2,p3])
      go_simp;have hk:=And.right ‹_∧Kp wz _›;refine (TCO.out _ hk).mono ?_;rintro e v8 ⟨N8,n8,o8,M8,p8,s8,rfl,hbx⟩;have hp:Kp wz v8:=Kp.trans hk hbx
      (try replace hb12:=Blk.below hb12 hbx hb12.lt)
      clear hk hbx
      (try (go_wp2_with fail))
      refine hK.out _ _ (HS10.out _ hp) fun hH9=>?_;clear hK K hH0
      (try simp only [Act.put,p1,p2,p3,p4,p5,p6])
      refine tq 9 ?_;refine tq 10 ?_;refine tq 11 ?_;refine rd1 12 fun K hK=>?_
      (try simp only [p1,p2,p3])
      go_simp;have hk:=And.right ‹_∧Kp wz _›;have hg12:=Below.size hk;have hb12:=blk_hereS hk 42 #[.bool false,.slice none 0 0,.bool false,.slice none 0 0]
      (try simp only [sz_drewS] at hb12 hg12)
      refine hK.out _ _ (by first|exact HS10.out _ (Kp.alloc hk _)|exact HS10.out _ (Kp.drew (Kp.alloc (Kp.refl wz) _))) fun hH10=>?_;clear hK K hH9
      (try simp only [Act.put,p1,p2,p3,p4,p5,p6])
      refine rd1 13 fun K hK=>?_;have hk:=And.right ‹_∧Kp wz _›;obtain ⟨_,_,_,_,i0,i1',i2',i3⟩:=hb12.four
      (try simp only [p1,p2,p3])
      go_simp;refine hK.out _ _ (by first|exact HS10.out _ (Kp.alloc hp _)|exact HS10.out _ (kp_set4 hk hg12 _ _ _ _)) fun hH11=>?_;clear hK K hH10
      (try simp only [Act.put,p1,p2,p3,p4,p5,p6])
      refine tq 14 ?_;refine wpAnyH_done (by kernel_rfl) ?_ _;clear hH11;have hkY:=Kp.alloc hp (.cells #[.bool false,.slice N8 n8 o8,.bool false,.slice M8 p8 s8] 42);have hbY:=Blk.new v8 42 #[.bool false,.slice N8 n8 o8,.bool false,.slice M8 p8 s8];clear hk hp hb12 hg12 i0 i1' i2' i3;generalize v8.alloc (.cells #[.bool false,.slice N8 n8 o8,.bool false,.slice M8 p8 s8] 42)=Y at *;generalize v8.heap.size=g12 at hbY ⊢;revert hbY;revert hkY;revert s8;revert p8;revert M8;revert o8;revert n8;revert N8;revert g12;revert Y;exact key.out
     ·(try simp only [p1,p2,p3])
      go_simp;have hk:=And.right ‹_∧Kp wz _›;have hg12:=Below.size hk;have hb12:=blk_hereS hk 42 #[.bool false,.slice none 0 0,.bool false,.slice none 0 0]
      (try simp only [sz_drewS] at hb12 hg12)
      refine hK.out _ _ (by first|exact HS10.out _ (Kp.alloc hk _)|exact HS10.out _ (Kp.drew (Kp.alloc (Kp.refl wz) _))) fun hH12=>?_;clear hK K hH0
      (try simp only [Act.put,p1,p2,p3,p4,p5,p6])
      refine rd1 8 fun K hK=>?_
      (try simp only [p1,p2,p3])
      go_simp;have hk:=And.right ‹_∧Kp wz _›;refine (TCO.out _ hk).mono ?_;rintro e v8 ⟨N8,n8,o8,M8,p8,s8,rfl,hbx⟩;have hp:Kp wz v8:=Kp.trans hk hbx
      (try replace hb12:=Blk.below hb12 hbx hb12.lt)
      clear hk hbx
      (try (go_wp2_with fail))
      refine hK.out _ _ (HS10.out _ hp) fun hH13=>?_;clear hK K hH12
      (try simp only [Act.put,p1,p2,p3,p4,p5,p6])
      refine tq 9 ?_;refine tq 10 ?_;refine tq 11 ?_;refine rd1 13 fun K hK=>?_;have hk:=And.right ‹_∧Kp wz _›;obtain ⟨_,_,_,_,i0,i1',i2',i3⟩:=hb12.four
      (try simp only [p1,p2,p3])
      go_simp;refine hK.out _ _ (by first|exact HS10.out _ (Kp.alloc hp _)|exact HS10.out _ (kp_set4 hk hg12 _ _ _ _)) fun hH14=>?_;clear hK K hH13
      (try simp only [Act.put,p1,p2,p3,p4,p5,p6])
      refine tq 14 ?_;refine wpAnyH_done (by kernel_rfl) ?_ _;clear hH14;have hkY:=kp_set4 hp hg12 (.bool false) (.slice N8 n8 o8) (.bool false) (.slice M8 p8 s8);have hbY:=(show Blk (qst v8 wz.heap.size 0 false false N8 M8 n8 o8 p8 s8) wz.heap.size 42 #[.bool false,.slice N8 n8 o8,.bool false,.slice M8 p8 s8] from hb12.put4);simp only [qst,Nat.zero_add] at hbY;clear hk hp hb12 hg12 i0 i1' i2' i3;generalize (((v8.setCell ⟨wz.heap.size,0,none⟩ (.bool false)).setCell ⟨wz.heap.size,1,none⟩ (.slice N8 n8 o8)).setCell ⟨wz.heap.size,2,none⟩ (.bool false)).setCell ⟨wz.heap.size,3,none⟩ (.slice M8 p8 s8)=Y at *;generalize hg12e:wz.heap.size=g12 at hbY ⊢;clear hg12e;revert hbY;revert hkY;revert s8;revert p8;revert M8;revert o8;revert n8;revert N8;revert g12;revert Y;exact key.out
    case k =>
     intro Y g12 N8 n8 o8 M8 p8 s8 hkY hbY;clear TCO;have HKY9:=Hj (HKW.out.trans (Below.mono hkY HKW.out.size));have HBY9:=Hj (HT.out.1.trans (Below.mono hkY HT.out.1.size));clear hkY hbY HT HKW hcl y0 y1 y2 y3 hbr hbr2;have hbX:=HX6.out.below HKY9.out HX6.out.lt;have hbB:=HBY9.out;have hY:Blk ((((Y.setCell ⟨w.heap.size,0,none⟩ (.bool false)).setCell ⟨w.heap.size,1,none⟩ (.slice none 0 0)).setCell ⟨w.heap.size,2,none⟩ (.bool false)).setCell ⟨w.heap.size,3,none⟩ (.slice none 0 0)) w.heap.size 42 #[.bool false,.slice none 0 0,.bool false,.slice none 0 0]:=hbX.put4 (o:=0);have hG:Below w.heap.size w ((((Y.setCell ⟨w.heap.size,0,none⟩ (.bool false)).setCell ⟨w.heap.size,1,none⟩ (.slice none 0 0)).setCell ⟨w.heap.size,2,none⟩ (.bool false)).setCell ⟨w.heap.size,3,none⟩ (.slice none 0 0)):=below_qst (o:=0) (a:=false) (b:=false) (A:=none) (A':=none) (k:=0) (c:=0) (k':=0) (c':=0) hbB (Nat.le_refl _);obtain ⟨i4,i5,i6,i7,f4,f5,f6,f7⟩:=hbX.four;obtain ⟨d0,d1,d2,d3,-,-,-,-⟩:=hY.four;have HF:=Hj hG;clear hY hG hbX hbB HKY9 HBY9;go_wp2;refine bodyPost_ret (v:=.tuple #[.agg #[.bool false,.slice none 0 0,.bool false,.slice none 0 0],.int .i64 1]) ?_ rfl ?_
     ·simp [results,Tryz.results59,go_sem,d0,d1,d2,d3]
     ·exact rwel_err HBAD.out (by decide) HF.out
  ·obtain rfl:gn=i:=by omega
   have HGA:=Hj (show goodA os gs from fun j hj=>HGD.out j (by have:=HX.out.1;omega));have ht2:=HT.out;rw [← wor2_zero os bs gs ts gn,← lef2_zero gs ts gn] at ht2;have HT2:=Hj ht2;have HKW2:=Hj HKW.out;have HLM2':=Hj (HLM2.out (fun j hj=>(HGD.out j hj).1));clear ht2 HT HKW HGD hlt HLM2 HLM1 HLS1 HLQ1 HKA HX HQG
   go_wp2_with fail
   go_loopw [16] (fun t wr=>∃ (i:Nat) (P1:Option Addr) (j1 d1:Nat) (P2:Option Addr) (j2 d2:Nat) (R1:Option Addr) (j3 d3:Nat) (R2:Option Addr) (j4 d4:Nat),i≤hn∧t=.int .i64 i∧Hid (TotR w g9 (g9+1) (wor2 os bs gs ts gn i) (lef2 gs ts gn i) P1 j1 d1 P2 j2 d2 R1 j3 d3 R2 j4 d4 wr)∧Hid (Below w6.heap.size w6 wr)∧Hid (∀ j,j<i→0≤ts[j]?.getD 0∧ts[j]?.getD 0≤((qsum (bs[j]?.getD []):Int):Rat))) (fun t _=>hn-(intOf t).toNat)
   case atStart=>exact ⟨0,P1,j1,d1,P2,j2,d2,R1,j3,d3,R2,j4,d4,Nat.zero_le _,rfl,HT2.out,HKW2.out,fun j hj=>absurd hj (by omega)⟩
   case round =>
    clear HT2 HKW2;obtain ⟨i,P1,j1,d1,P2,j2,d2,R1,j3,d3,R2,j4,d4,hi,rfl,HT,HKW,HGD⟩:=hrel;obtain ⟨wz,rfl⟩:∃ u,u=wr:=⟨_,rfl⟩;by_cases hlt:i<hn
    ·obtain ⟨b,o,rfl,hbr,hc1⟩:=(HX'.out.below HT.out.1).2 (by omega);obtain ⟨A',n',c',hcl,hst⟩:=hc1 i hlt;obtain ⟨b2,o2,rfl,hbr2,hc2⟩:=(HQH.out.below HT.out.1).2 (by omega);obtain ⟨an,aA,ak,ac,an',aA',ak',ac',y0,y1,y2,y3,hqs⟩:=hc2 i hlt;have hce:=HKB.out i hlt;have e':n'=(bs[i]?.getD []).length:=hst.1.symm;have i1:(0:Int)≤(i:Int):=by omega
     have i2:(i:Int)<(hn:Int):=by omega
     by_cases hgd:0≤ts[i]?.getD 0∧ts[i]?.getD 0≤((qsum (bs[i]?.getD []):Int):Rat)
     ·have TCO:=Hj (fun W (hW:Kp wz W)=>rcost_ok A' n' c' _ W (hst.below hW) hce an an' aA aA' ak ac ak' ac' _ (hqs.below hW) hgd.1 hgd.2);have HQS:=Hj hqs;have hcol:=(cost_ls (s:=7) (by decide) hce hgd.1 (HLQ2.out i hlt));rw [← e'] at hcol;have HGI:=Hj hgd;have HNM:=Hj (show wor2 os bs gs ts gn (i+1)=wor2 os bs gs ts gn i+costAt (bs[i]?.getD []) (ts[i]?.getD 0) n' from by rw [e'];exact wor2_succ os bs gs ts gn i);have HNQ:=Hj (show lef2 gs ts gn (i+1)=lef2 gs ts gn i-ts[i]?.getD 0 from lef2_succ gs ts gn i);have HCOL:=Hj hcol;generalize costAt (bs[i]?.getD []) (ts[i]?.getD 0) n'=co at *;clear hc1 hc2 hst hqs hce hgd hcol e';have hne1:g9≠g9+1:=by omega
      have hne2:g9+1≠g9:=by omega
      have HGM:=Hj (Nat.le_of_lt HG9.out);have HGQ:=Hj (show w.heap.size≤g9+1 by have:=HG9.out;omega);have HSQ0:=Hj (HLS2.out i hi);have HSM0:=Hj (HLM2'.out i hi (fun j hj=>(HGD.out j hj).1))
      go_wp2_with fail
      apply join_at
      case h =>
       intro key;refine held_at (W:=wz) (C:=fun w'=>w'.cell? ⟨b,o+i,none⟩=some (.slice A' n' c')∧w'.cell? ⟨b2,o2+i*4,none⟩=some (.bool an)∧w'.cell? ⟨b2,o2+i*4+1,none⟩=some (.slice aA ak ac)∧w'.cell? ⟨b2,o2+i*4+2,none⟩=some (.bool an')∧w'.cell? ⟨b2,o2+i*4+3,none⟩=some (.slice aA' ak' ac')) (fun w' hk=>⟨(Below.cell hk (p:=⟨b,_,none⟩) hbr).trans hcl,(Below.cell hk (p:=⟨b2,_,none⟩) hbr2).trans y0,(Below.cell hk (p:=⟨b2,_,none⟩) hbr2).trans y1,(Below.cell hk (p:=⟨b2,_,none⟩) hbr2).trans y2,(Below.cell hk (p:=⟨b2,_,none⟩) hbr2).trans y3⟩) (Kp.refl wz) (fun HS10 hH0=>?_);refine tq 0 ?_;refine tq 1 ?_;refine tq 2 ?_;refine tq 3 ?_;refine tq 4 ?_;refine tq 5 ?_;refine tq 6 ?_;refine tq 7 ?_;refine rd2 8 12 (fun K hK=>?_) (fun K hK=>?_)
       ·(try simp only [p1,p2,p3])
        go_simp;have hk:=And.right ‹_∧Kp wz _›;refine (TCO.out _ hk).mono ?_;rintro e v8 ⟨N8,n8,o8,M8,p8,s8,rfl,hcq,hbx⟩;have hp:Kp wz v8:=Kp.trans hk hbx
        (try replace hb12:=Blk.below hb12 hbx hb12.lt)
        have h8r:=hcq.wq;clear hcq;clear hk hbx
        (try (go_wp2_with fail))
        refine hK.out _ _ (HS10.out _ hp) fun hH15=>?_;clear hK K hH0
        (try simp only [Act.put,p1,p2,p3,p4,p5,p6])
        refine tq 9 ?_;refine tq 10 ?_;refine tq 11 ?_;refine rd1 12 fun K hK=>?_
        (try simp only [p1,p2,p3])
        go_simp;have hk:=And.right ‹_∧Kp wz _›;have hg12:=Below.size hk;have hb12:=blk_hereS hk 42 #[.bool false,.slice none 0 0,.bool false,.slice none 0 0]
        (try simp only [sz_drewS] at hb12 hg12)
        refine hK.out _ _ (by first|exact HS10.out _ (Kp.alloc hk _)|exact HS10.out _ (Kp.drew (Kp.alloc (Kp.refl wz) _))) fun hH16=>?_;clear hK K hH15
        (try simp only [Act.put,p1,p2,p3,p4,p5,p6])
        refine rd1 13 fun K hK=>?_;have hk:=And.right ‹_∧Kp wz _›;obtain ⟨_,_,_,_,i0,i1',i2',i3⟩:=hb12.four
        (try simp only [p1,p2,p3])
        go_simp;refine hK.out _ _ (by first|exact HS10.out _ (Kp.alloc hp _)|exact HS10.out _ (kp_set4 hk hg12 _ _ _ _)) fun hH17=>?_;clear hK K hH16
        (try simp only [Act.put,p1,p2,p3,p4,p5,p6])
        refine tq 14 ?_;refine wpAnyH_done (by kernel_rfl) ?_ _;clear hH17;have hkY:=Kp.alloc hp (.cells #[.bool (decide (co.num<0)),.slice N8 n8 o8,.bool false,.slice M8 p8 s8] 42);have hbY:=Blk.new v8 42 #[.bool (decide (co.num<0)),.slice N8 n8 o8,.bool false,.slice M8 p8 s8];have hqY:=WQ.below h8r ((Kp.refl v8).alloc (.cells #[.bool (decide (co.num<0)),.slice N8 n8 o8,.bool false,.slice M8 p8 s8] 42));clear hk hp hb12 hg12 i0 i1' i2' i3 h8r;generalize v8.alloc (.cells #[.bool (decide (co.num<0)),.slice N8 n8 o8,.bool false,.slice M8 p8 s8] 42)=Y at *;generalize v8.heap.size=g12 at hbY ⊢;revert hqY;revert hbY;revert hkY;revert s8;revert p8;revert M8;revert o8;revert n8;revert N8;revert g12;revert Y;exact key.out
       ·(try simp only [p1,p2,p3])
        go_simp;have hk:=And.right ‹_∧Kp wz _›;have hg12:=Below.size hk;have hb12:=blk_hereS hk 42 #[.bool false,.slice none 0 0,.bool false,.slice none 0 0]
        (try simp only [sz_drewS] at hb12 hg12)
        refine hK.out _ _ (by first|exact HS10.out _ (Kp.alloc hk _)|exact HS10.out _ (Kp.drew (Kp.alloc (Kp.refl wz) _))) fun hH18=>?_;clear hK K hH0
        (try simp only [Act.put,p1,p2,p3,p4,p5,p6])
        refine rd1 8 fun K hK=>?_
        (try simp only [p1,p2,p3])
        go_simp;have hk:=And.right ‹_∧Kp wz _›;refine (TCO.out _ hk).mono ?_;rintro e v8 ⟨N8,n8,o8,M8,p8,s8,rfl,hcq,hbx⟩;have hp:Kp wz v8:=Kp.trans hk hbx
        (try replace hb12:=Blk.below hb12 hbx hb12.lt)
        have h8r:=hcq.wq;clear hcq;clear hk hbx
        (try (go_wp2_with fail))
        refine hK.out _ _ (HS10.out _ hp) fun hH19=>?_;clear hK K hH18
        (try simp only [Act.put,p1,p2,p3,p4,p5,p6])
        refine tq 9 ?_;refine tq 10 ?_;refine tq 11 ?_;refine rd1 13 fun K hK=>?_;have hk:=And.right ‹_∧Kp wz _›;obtain ⟨_,_,_,_,i0,i1',i2',i3⟩:=hb12.four
        (try simp only [p1,p2,p3])
        go_simp;refine hK.out _ _ (by first|exact HS10.out _ (Kp.alloc hp _)|exact HS10.out _ (kp_set4 hk hg12 _ _ _ _)) fun hH20=>?_;clear hK K hH19
        (try simp only [Act.put,p1,p2,p3,p4,p5,p6])
        refine tq 14 ?_;refine wpAnyH_done (by kernel_rfl) ?_ _;clear hH20;have hkY:=kp_set4 hp hg12 (.bool (decide (co.num<0))) (.slice N8 n8 o8) (.bool false) (.slice M8 p8 s8);have hbY:=(show Blk (qst v8 wz.heap.size 0 (decide (co.num<0)) false N8 M8 n8 o8 p8 s8) wz.heap.size 42 #[.bool (decide (co.num<0)),.slice N8 n8 o8,.bool false,.slice M8 p8 s8] from hb12.put4);have hqY:=WQ.put4 (o:=0) (a:=decide (co.num<0)) (b:=false) (B:=N8) (B':=M8) (j:=n8) (d:=o8) (j':=p8) (d':=s8) h8r hb12 NoInt.four;simp only [qst,Nat.zero_add] at hbY hqY;clear hk hp hb12 hg12 i0 i1' i2' i3 h8r;generalize (((v8.setCell ⟨wz.heap.size,0,none⟩ (.bool (decide (co.num<0)))).setCell ⟨wz.heap.size,1,none⟩ (.slice N8 n8 o8)).setCell ⟨wz.heap.size,2,none⟩ (.bool false)).setCell ⟨wz.heap.size,3,none⟩ (.slice M8 p8 s8)=Y at *;generalize hg12e:wz.heap.size=g12 at hbY ⊢;clear hg12e;revert hqY;revert hbY;revert hkY;revert s8;revert p8;revert M8;revert o8;revert n8;revert N8;revert g12;revert Y;exact key.out
      case k =>
       intro Y g12 N8 n8 o8 M8 p8 s8 hkY hbY hqY;clear TCO;have HTY:=Hj (HT.out.call hkY);have HKY:=Hj (HKW.out.trans (Below.mono hkY HKW.out.size));have HBY:=Hj hbY;have HCO:=Hj hqY;have z0:=(Below.cell hkY (p:=⟨b2,_,none⟩) hbr2).trans y0;have z1:=(Below.cell hkY (p:=⟨b2,_,none⟩) hbr2).trans y1;have z2:=(Below.cell hkY (p:=⟨b2,_,none⟩) hbr2).trans y2;have z3:=(Below.cell hkY (p:=⟨b2,_,none⟩) hbr2).trans y3;have hbY2:b2<Y.heap.size:=Nat.lt_of_lt_of_le hbr2 (Below.size hkY);have HQY:=Hj (HQS.out.below hkY);have TQ1:=Hj (fun (W:World) (hW:Kp Y W)=>rsubq_s (s:=1000) (by decide) _ _ _ _ _ _ _ _ _ _ _ _ _ _ _ _ _ _ W (RQ.qs (WQ.below HTY.out.2.2.2.2.wq hW) (HSQ0.out.mono (by decide)) (by decide)) ((HQY.out.below hW).mono (by decide)));have TM1:=Hj (fun (W:World) (hW:Kp Y W)=>raddq_s (s:=1000) (by decide) _ _ _ _ _ _ _ _ _ _ _ _ _ _ _ _ _ _ W (RQ.qs (WQ.below HTY.out.2.2.1.wq hW) (HSM0.out.mono (by decide)) (by decide)) (RQ.qs (WQ.below HCO.out hW) (HCOL.out.mono (by decide)) (by decide)));rw [← HNQ.out] at TQ1;rw [← HNM.out] at TM1;generalize hsqe:lef2 gs ts gn (i+1)=sq' at *;generalize hsme:wor2 os bs gs ts gn (i+1)=sm' at *;have HSQ1:=Hj hsqe;have HSM1:=Hj hsme;generalize lef2 gs ts gn i=sq at *;generalize wor2 os bs gs ts gn i=sm at *;clear hsqe hsme hbY hqY HT HKW HQS HSQ0 HSM0 hkY HCO y0 y1 y2 y3 hcl hbr hbr2
       go_wp2_with fail
       refine held_front (W:=Y) (C:=fun w'=>w'.cell? ⟨g9+1,0,none⟩=some (.bool (decide (sq.num<0)))∧w'.cell? ⟨g9+1,1,none⟩=some (.slice R1 j3 d3)∧w'.cell? ⟨g9+1,2,none⟩=some (.bool false)∧w'.cell? ⟨g9+1,3,none⟩=some (.slice R2 j4 d4)∧w'.cell? ⟨g9,0,none⟩=some (.bool (decide (sm.num<0)))∧w'.cell? ⟨g9,1,none⟩=some (.slice P1 j1 d1)∧w'.cell? ⟨g9,2,none⟩=some (.bool false)∧w'.cell? ⟨g9,3,none⟩=some (.slice P2 j2 d2)∧w'.cell? ⟨g12,0,none⟩=some (.bool (decide (co.num<0)))∧w'.cell? ⟨g12,1,none⟩=some (.slice N8 n8 o8)∧w'.cell? ⟨g12,2,none⟩=some (.bool false)∧w'.cell? ⟨g12,3,none⟩=some (.slice M8 p8 s8)∧w'.cell? ⟨b2,o2+i*4,none⟩=some (.bool an)∧w'.cell? ⟨b2,o2+i*4+1,none⟩=some (.slice aA ak ac)∧w'.cell? ⟨b2,o2+i*4+2,none⟩=some (.bool an')∧w'.cell? ⟨b2,o2+i*4+3,none⟩=some (.slice aA' ak' ac')) 9 2 (fun w' hk=>⟨(Kp.blk hk HTY.out.2.2.2.1).cell 0,(Kp.blk hk HTY.out.2.2.2.1).cell 1,(Kp.blk hk HTY.out.2.2.2.1).cell 2,(Kp.blk hk HTY.out.2.2.2.1).cell 3,(Kp.blk hk HTY.out.2.1).cell 0,(Kp.blk hk HTY.out.2.1).cell 1,(Kp.blk hk HTY.out.2.1).cell 2,(Kp.blk hk HTY.out.2.1).cell 3,(Kp.blk hk HBY.out).cell 0,(Kp.blk hk HBY.out).cell 1,(Kp.blk hk HBY.out).cell 2,(Kp.blk hk HBY.out).cell 3,(Below.cell hk (p:=⟨b2,_,none⟩) hbY2).trans z0,(Below.cell hk (p:=⟨b2,_,none⟩) hbY2).trans z1,(Below.cell hk (p:=⟨b2,_,none⟩) hbY2).trans z2,(Below.cell hk (p:=⟨b2,_,none⟩) hbY2).trans z3⟩) (Kp.refl Y) (fun HS13 hH0=>?_);refine tq 0 ?_;refine tq 1 ?_;refine tq 3 ?_;refine tq 4 ?_;refine tq 5 ?_;refine tq 6 ?_;refine tq 7 ?_;refine rd1 2 fun K hK=>?_
       (try simp only [p1,p2,p3])
       go_simp;have hk:=And.right ‹_∧Kp Y _›;refine (TM1.out _ hk).mono ?_;rintro e v5 ⟨Xa1,xa2,xa3,Xa4,xa5,xa6,rfl,hk1,hk2,hW1,hW2,hF1,hF2,hbx⟩;have hp:Kp Y v5:=Kp.trans hk hbx;have hszz:=Nat.le_trans HTY.out.1.size (Below.size hk);have cqa:CQ w.heap.size v5 sm' Xa1 xa2 xa3 Xa4 xa5 xa6:=⟨hk1,hk2,hW1,hW2,hF1.mono hszz,hF2.mono hszz⟩;clear hk hbx hk1 hk2 hW1 hW2 hF1 hF2 hszz
       (try (go_wp2_with fail))
       refine hK.out _ _ (HS13.out _ hp) fun hH21=>?_;clear hK K hH0
       (try simp only [Act.put,p1,p2,p3,p4,p5,p6])
       refine rd1 8 fun K hK=>?_
       (try simp only [p1,p2,p3])
       go_simp;have hk:=And.right ‹_∧Kp Y _›;refine (TQ1.out _ hk).mono ?_;rintro e v8 ⟨Xb1,xb2,xb3,Xb4,xb5,xb6,rfl,hk1,hk2,hW1,hW2,hF1,hF2,hbx⟩;have hp:Kp Y v8:=Kp.trans hk hbx;have hszz:=Nat.le_trans HTY.out.1.size (Below.size hk);have cqb:CQ w.heap.size v8 sq' Xb1 xb2 xb3 Xb4 xb5 xb6:=⟨hk1,hk2,hW1,hW2,hF1.mono hszz,hF2.mono hszz⟩
       (try replace cqa:=cqa.below hbx)
       clear hk hbx hk1 hk2 hW1 hW2 hF1 hF2 hszz
       (try (go_wp2_with fail))
       refine hK.out _ _ (HS13.out _ hp) fun hH22=>?_;clear hK K hH21
       (try simp only [Act.put,p1,p2,p3,p4,p5,p6])
       refine wpAnyH_done (by kernel_rfl) ?_ _;clear hH22;unfold Qfr;dsimp only;have hbq:=Kp.blk hp HTY.out.2.2.2.1;have hbm:=Kp.blk hp HTY.out.2.1;obtain ⟨_,_,_,_,f10,f11,f12,f13⟩:=hbq.four;obtain ⟨_,_,_,_,f20,f21,f22,f23⟩:=hbm.four;refine wpAny_ready (rs:=[9]) (by kernel_rfl) (by simp) ?_;refine AllReady.cons rfl (fun K hK=>?_) AllReady.nil
       (try simp only [p1,p2,p3])
       go_simp;refine hK _ _ ?_;clear hK K
       (try simp only [Act.put,p1,p2,p3,p4,p5,p6])
       refine wpAny_ready (rs:=[10]) (by kernel_rfl) (by simp) ?_;refine AllReady.cons rfl (fun K hK=>?_) AllReady.nil
       (try simp only [p1,p2,p3])
       go_simp;refine hK _ _ ?_;clear hK K
       (try simp only [Act.put,p1,p2,p3,p4,p5,p6])
       refine wpAny_done (by kernel_rfl) ?_ _;have hp9:TotR w (g9) (g9+1) sm' sq' Xa1 xa2 xa3 Xa4 xa5 xa6 Xb1 xb2 xb3 Xb4 xb5 xb6 (((((((((v8.setCell ⟨g9,0,none⟩ (.bool (decide ((sm').num<0)))).setCell ⟨g9,1,none⟩ (.slice Xa1 xa2 xa3)).setCell ⟨g9,2,none⟩ (.bool false)).setCell ⟨g9,3,none⟩ (.slice Xa4 xa5 xa6)).setCell ⟨g9+1,0,none⟩ (.bool (decide ((sq').num<0)))).setCell ⟨g9+1,1,none⟩ (.slice Xb1 xb2 xb3)).setCell ⟨g9+1,2,none⟩ (.bool false)).setCell ⟨g9+1,3,none⟩ (.slice Xb4 xb5 xb6))):=((HTY.out.call hp).put1 (m2:=sm') HGM.out hne2 cqa).put2 (s2:=sq') HGQ.out hne1 (cqb.put4 (o:=0) (a:=decide (sm'.num<0)) (b:=false) (B:=Xa1) (B':=Xa4) (j:=xa2) (d:=xa3) (j':=xa5) (d':=xa6) hbm NoInt.four);have hk9:Below w6.heap.size w6 (((((((((v8.setCell ⟨g9,0,none⟩ (.bool (decide ((sm').num<0)))).setCell ⟨g9,1,none⟩ (.slice Xa1 xa2 xa3)).setCell ⟨g9,2,none⟩ (.bool false)).setCell ⟨g9,3,none⟩ (.slice Xa4 xa5 xa6)).setCell ⟨g9+1,0,none⟩ (.bool (decide ((sq').num<0)))).setCell ⟨g9+1,1,none⟩ (.slice Xb1 xb2 xb3)).setCell ⟨g9+1,2,none⟩ (.bool false)).setCell ⟨g9+1,3,none⟩ (.slice Xb4 xb5 xb6))):=(show Below w6.heap.size w6 (qst (qst v8 (g9) 0 (decide (sm'.num<0)) false Xa1 Xa4 xa2 xa3 xa5 xa6) (g9+1) 0 (decide (sq'.num<0)) false Xb1 Xb4 xb2 xb3 xb5 xb6) from below_qst (below_qst (HKY.out.trans (Below.mono hp HKY.out.size)) (by have:=HG5.out;omega)) (by have:=HG5.out;omega));generalize ((((((((v8.setCell ⟨g9,0,none⟩ (.bool (decide ((sm').num<0)))).setCell ⟨g9,1,none⟩ (.slice Xa1 xa2 xa3)).setCell ⟨g9,2,none⟩ (.bool false)).setCell ⟨g9,3,none⟩ (.slice Xa4 xa5 xa6)).setCell ⟨g9+1,0,none⟩ (.bool (decide ((sq').num<0)))).setCell ⟨g9+1,1,none⟩ (.slice Xb1 xb2 xb3)).setCell ⟨g9+1,2,none⟩ (.bool false)).setCell ⟨g9+1,3,none⟩ (.slice Xb4 xb5 xb6))=Y9 at *;have HF:=Hj hp9;have HK9:=Hj hk9;clear hp9 hk9 cqa cqb hp hbq hbm f10 f11 f12 f13 f20 f21 f22 f23 TQ1 TM1 HS13 HQY HBY HKY HTY z0 z1 z2 z3 hbY2;have HGD2:=Hj (show ∀ j,j<i+1→0≤ts[j]?.getD 0∧ts[j]?.getD 0≤((qsum (bs[j]?.getD []):Int):Rat) from fun j hj=>by
        by_cases hji:j<i
        ·exact HGD.out j hji
        ·obtain rfl:j=i:=by omega
         exact HGI.out)
       clear HGD HGI HNM HNQ HCOL
       go_wp2_with fail
       go_roundw
       case rel=>exact ⟨i+1,Xa1,xa2,xa3,Xa4,xa5,xa6,Xb1,xb2,xb3,Xb4,xb5,xb6,by omega,by first|rfl|go_num,by rw [HSM1.out,HSQ1.out];exact HF,HK9,HGD2⟩
       case measure=>simp [intOf];omega
     ·have TCO:=Hj (fun W (hW:Kp wz W)=>rcost_of A' n' c' 1 W an an' aA aA' ak ac ak' ac' (fun W2 hW2=>ralloc_no A' n' c' _ W2 ((hst.below hW).below hW2) hce an an' aA aA' ak ac ak' ac' _ ((hqs.below hW).below hW2) (by
       by_cases h0:ts[i]?.getD 0<0
       ·exact Or.inl h0
       ·refine Or.inr ?_;have:¬ ts[i]?.getD 0≤((qsum (bs[i]?.getD []):Int):Rat):=fun hh=>hgd ⟨by grind,hh⟩;grind)))
      have HBAD:=Hj (wfE_3 HC0.out HL1.out HL2.out (Or.inr (fun hgo=>hgd (hgo i (by have:=HX'.out.1;omega)))));clear hc1 hc2 hst hqs hce hgd e' HGD;unfold RErrQ at TCO
      go_wp2_with fail
      apply join_at
      case h =>
       intro key;refine held_at (W:=wz) (C:=fun w'=>w'.cell? ⟨b,o+i,none⟩=some (.slice A' n' c')∧w'.cell? ⟨b2,o2+i*4,none⟩=some (.bool an)∧w'.cell? ⟨b2,o2+i*4+1,none⟩=some (.slice aA ak ac)∧w'.cell? ⟨b2,o2+i*4+2,none⟩=some (.bool an')∧w'.cell? ⟨b2,o2+i*4+3,none⟩=some (.slice aA' ak' ac')) (fun w' hk=>⟨(Below.cell hk (p:=⟨b,_,none⟩) hbr).trans hcl,(Below.cell hk (p:=⟨b2,_,none⟩) hbr2).trans y0,(Below.cell hk (p:=⟨b2,_,none⟩) hbr2).trans y1,(Below.cell hk (p:=⟨b2,_,none⟩) hbr2).trans y2,(Below.cell hk (p:=⟨b2,_,none⟩) hbr2).trans y3⟩) (Kp.refl wz) (fun HS10 hH0=>?_);refine tq 0 ?_;refine tq 1 ?_;refine tq 2 ?_;refine tq 3 ?_;refine tq 4 ?_;refine tq 5 ?_;refine tq 6 ?_;refine tq 7 ?_;refine rd2 8 12 (fun K hK=>?_) (fun K hK=>?_)
       ·(try simp only [p1,p2,p3])
        go_simp;have hk:=And.right ‹_∧Kp wz _›;refine (TCO.out _ hk).mono ?_;rintro e v8 ⟨N8,n8,o8,M8,p8,s8,rfl,hbx⟩;have hp:Kp wz v8:=Kp.trans hk hbx
        (try replace hb12:=Blk.below hb12 hbx hb12.lt)
        clear hk hbx
        (try (go_wp2_with fail))
        refine hK.out _ _ (HS10.out _ hp) fun hH23=>?_;clear hK K hH0
        (try simp only [Act.put,p1,p2,p3,p4,p5,p6])
        refine tq 9 ?_;refine tq 10 ?_;refine tq 11 ?_;refine rd1 12 fun K hK=>?_
        (try simp only [p1,p2,p3])
        go_simp;have hk:=And.right ‹_∧Kp wz _›;have hg12:=Below.size hk;have hb12:=blk_hereS hk 42 #[.bool false,.slice none 0 0,.bool false,.slice none 0 0]
        (try simp only [sz_drewS] at hb12 hg12)
        refine hK.out _ _ (by first|exact HS10.out _ (Kp.alloc hk _)|exact HS10.out _ (Kp.drew (Kp.alloc (Kp.refl wz) _))) fun hH24=>?_;clear hK K hH23
        (try simp only [Act.put,p1,p2,p3,p4,p5,p6])
        refine rd1 13 fun K hK=>?_;have hk:=And.right ‹_∧Kp wz _›;obtain ⟨_,_,_,_,i0,i1',i2',i3⟩:=hb12.four
        (try simp only [p1,p2,p3])
        go_simp;refine hK.out _ _ (by first|exact HS10.out _ (Kp.alloc hp _)|exact HS10.out _ (kp_set4 hk hg12 _ _ _ _)) fun hH25=>?_;clear hK K hH24
        (try simp only [Act.put,p1,p2,p3,p4,p5,p6])
        refine tq 14 ?_;refine wpAnyH_done (by kernel_rfl) ?_ _;clear hH25;have hkY:=Kp.alloc hp (.cells #[.bool false,.slice N8 n8 o8,.bool false,.slice M8 p8 s8] 42);have hbY:=Blk.new v8 42 #[.bool false,.slice N8 n8 o8,.bool false,.slice M8 p8 s8];clear hk hp hb12 hg12 i0 i1' i2' i3;generalize v8.alloc (.cells #[.bool false,.slice N8 n8 o8,.bool false,.slice M8 p8 s8] 42)=Y at *;generalize v8.heap.size=g12 at hbY ⊢;revert hbY;revert hkY;revert s8;revert p8;revert M8;revert o8;revert n8;revert N8;revert g12;revert Y;exact key.out
       ·(try simp only [p1,p2,p3])
        go_simp;have hk:=And.right ‹_∧Kp wz _›;have hg12:=Below.size hk;have hb12:=blk_hereS hk 42 #[.bool false,.slice none 0 0,.bool false,.slice none 0 0]
        (try simp only [sz_drewS] at hb12 hg12)
        refine hK.out _ _ (by first|exact HS10.out _ (Kp.alloc hk _)|exact HS10.out _ (Kp.drew (Kp.alloc (Kp.refl wz) _))) fun hH26=>?_;clear hK K hH0
        (try simp only [Act.put,p1,p2,p3,p4,p5,p6])
        refine rd1 8 fun K hK=>?_
        (try simp only [p1,p2,p3])
        go_simp;have hk:=And.right ‹_∧Kp wz _›;refine (TCO.out _ hk).mono ?_;rintro e v8 ⟨N8,n8,o8,M8,p8,s8,rfl,hbx⟩;have hp:Kp wz v8:=Kp.trans hk hbx
        (try replace hb12:=Blk.below hb12 hbx hb12.lt)
        clear hk hbx
        (try (go_wp2_with fail))
        refine hK.out _ _ (HS10.out _ hp) fun hH27=>?_;clear hK K hH26
        (try simp only [Act.put,p1,p2,p3,p4,p5,p6])
        refine tq 9 ?_;refine tq 10 ?_;refine tq 11 ?_;refine rd1 13 fun K hK=>?_;have hk:=And.right ‹_∧Kp wz _›;obtain ⟨_,_,_,_,i0,i1',i2',i3⟩:=hb12.four
        (try simp only [p1,p2,p3])
        go_simp;refine hK.out _ _ (by first|exact HS10.out _ (Kp.alloc hp _)|exact HS10.out _ (kp_set4 hk hg12 _ _ _ _)) fun hH28=>?_;clear hK K hH27
        (try simp only [Act.put,p1,p2,p3,p4,p5,p6])
        refine tq 14 ?_;refine wpAnyH_done (by kernel_rfl) ?_ _;clear hH28;have hkY:=kp_set4 hp hg12 (.bool false) (.slice N8 n8 o8) (.bool false) (.slice M8 p8 s8);have hbY:=(show Blk (qst v8 wz.heap.size 0 false false N8 M8 n8 o8 p8 s8) wz.heap.size 42 #[.bool false,.slice N8 n8 o8,.bool false,.slice M8 p8 s8] from hb12.put4);simp only [qst,Nat.zero_add] at hbY;clear hk hp hb12 hg12 i0 i1' i2' i3;generalize (((v8.setCell ⟨wz.heap.size,0,none⟩ (.bool false)).setCell ⟨wz.heap.size,1,none⟩ (.slice N8 n8 o8)).setCell ⟨wz.heap.size,2,none⟩ (.bool false)).setCell ⟨wz.heap.size,3,none⟩ (.slice M8 p8 s8)=Y at *;generalize hg12e:wz.heap.size=g12 at hbY ⊢;clear hg12e;revert hbY;revert hkY;revert s8;revert p8;revert M8;revert o8;revert n8;revert N8;revert g12;revert Y;exact key.out
      case k =>
       intro Y g12 N8 n8 o8 M8 p8 s8 hkY hbY;clear TCO;have HKY9:=Hj (HKW.out.trans (Below.mono hkY HKW.out.size));have HBY9:=Hj (HT.out.1.trans (Below.mono hkY HT.out.1.size));clear hkY hbY HT HKW hcl y0 y1 y2 y3 hbr hbr2;have hbX:=HX6.out.below HKY9.out HX6.out.lt;have hbB:=HBY9.out;have hY:Blk ((((Y.setCell ⟨w.heap.size,0,none⟩ (.bool false)).setCell ⟨w.heap.size,1,none⟩ (.slice none 0 0)).setCell ⟨w.heap.size,2,none⟩ (.bool false)).setCell ⟨w.heap.size,3,none⟩ (.slice none 0 0)) w.heap.size 42 #[.bool false,.slice none 0 0,.bool false,.slice none 0 0]:=hbX.put4 (o:=0);have hG:Below w.heap.size w ((((Y.setCell ⟨w.heap.size,0,none⟩ (.bool false)).setCell ⟨w.heap.size,1,none⟩ (.slice none 0 0)).setCell ⟨w.heap.size,2,none⟩ (.bool false)).setCell ⟨w.heap.size,3,none⟩ (.slice none 0 0)):=below_qst (o:=0) (a:=false) (b:=false) (A:=none) (A':=none) (k:=0) (c:=0) (k':=0) (c':=0) hbB (Nat.le_refl _);obtain ⟨i4,i5,i6,i7,f4,f5,f6,f7⟩:=hbX.four;obtain ⟨d0,d1,d2,d3,-,-,-,-⟩:=hY.four;have HF:=Hj hG;clear hY hG hbX hbB HKY9 HBY9;go_wp2;refine bodyPost_ret (v:=.tuple #[.agg #[.bool false,.slice none 0 0,.bool false,.slice none 0 0],.int .i64 1]) ?_ rfl ?_
       ·simp [results,Tryz.results59,go_sem,d0,d1,d2,d3]
       ·exact rwel_err HBAD.out (by decide) HF.out
    ·obtain rfl:hn=i:=by omega
     have hgb:goodA bs ts:=fun j hj=>HGD.out j (by have:=HX'.out.1;omega);have hls:=HLS2.out hn (Nat.le_refl _);have TSG:=Hj (rsignq_s (s:=200) (by decide) _ _ _ _ _ _ _ _ (lef2 gs ts gn hn) wz (RQ.qs (WQ.below HT.out.2.2.2.2.wq (Kp.refl wz)) hls (by decide)));obtain ⟨a0,a1,a2,a3,-,-,-,-⟩:=HT.out.2.2.2.1.four;by_cases hz:lef2 gs ts gn hn=0
     ·have HE:=Hj (wfE_5 HC0.out HL1.out HL2.out HGA.out hgb (by
       have h1:os.length=gn:=HL1.out ▸ HQL.out;have h2:bs.length=hn:=HX'.out.1;rw [h1,h2];unfold lef2 at hz;grind))
      have HV:=Hj (show wfV os bs gs ts=wor2 os bs gs ts gn hn from by
       have h1:os.length=gn:=HL1.out ▸ HQL.out;have h2:bs.length=hn:=HX'.out.1;unfold wfV wor2;rw [h1,h2])
      have hs0:(sgnQ (lef2 gs ts gn hn) != 0)=false:=by
       rw [hz];decide
      generalize wor2 os bs gs ts gn hn=sm at *;generalize lef2 gs ts gn hn=sq at *;generalize sgnQ sq=sg at *;clear hz hgb hls HGD HX' HQH
      go_wp2_with fail
      refine TSG.out.mono ?_;rintro e v8 ⟨rfl,hbx⟩;have hk8:=HT.out.call hbx;obtain ⟨m0,m1,m2,m3,-,-,-,-⟩:=hk8.2.1.four;have hbX:=HX6.out.below (HKW.out.trans (Below.mono hbx HKW.out.size)) HX6.out.lt;have hY:Blk ((((v8.setCell ⟨w.heap.size,0,none⟩ (.bool (decide (sm.num<0)))).setCell ⟨w.heap.size,1,none⟩ (.slice P1 j1 d1)).setCell ⟨w.heap.size,2,none⟩ (.bool false)).setCell ⟨w.heap.size,3,none⟩ (.slice P2 j2 d2)) w.heap.size 42 #[.bool (decide ((sm).num<0)),.slice P1 j1 d1,.bool false,.slice P2 j2 d2]:=hbX.put4 (o:=0);have hF:CQ w.heap.size ((((v8.setCell ⟨w.heap.size,0,none⟩ (.bool (decide (sm.num<0)))).setCell ⟨w.heap.size,1,none⟩ (.slice P1 j1 d1)).setCell ⟨w.heap.size,2,none⟩ (.bool false)).setCell ⟨w.heap.size,3,none⟩ (.slice P2 j2 d2)) sm P1 j1 d1 P2 j2 d2:=hk8.2.2.1.put4 (o:=0) hbX NoInt.four;have hG:Below w.heap.size w ((((v8.setCell ⟨w.heap.size,0,none⟩ (.bool (decide (sm.num<0)))).setCell ⟨w.heap.size,1,none⟩ (.slice P1 j1 d1)).setCell ⟨w.heap.size,2,none⟩ (.bool false)).setCell ⟨w.heap.size,3,none⟩ (.slice P2 j2 d2)):=below_qst (o:=0) hk8.1 (Nat.le_refl _);obtain ⟨i4,i5,i6,i7,f4,f5,f6,f7⟩:=hbX.four;obtain ⟨d0,d1',d2',d3',-,-,-,-⟩:=hY.four;have HF:=Hj (And.intro hF hG);clear hY hF hG hbX hk8 hbx HT HKW TSG;go_wp2;refine bodyPost_ret (v:=.tuple #[.agg #[.bool (decide ((sm).num<0)),.slice P1 j1 d1,.bool false,.slice P2 j2 d2],.int .i64 0]) ?_ rfl ?_
      ·simp [results,Tryz.results59,go_sem,d0,d1',d2',d3']
      ·exact Or.inl ⟨HE.out,by rw [HV.out];exact ⟨P1,j1,d1,P2,j2,d2,rfl,HF.out.1,HF.out.2⟩⟩
     ·have HE:=Hj (wfE_4 HC0.out HL1.out HL2.out HGA.out hgb (by
       have h1:os.length=gn:=HL1.out ▸ HQL.out;have h2:bs.length=hn:=HX'.out.1;rw [h1,h2];unfold lef2 at hz;grind))
      have hs0:(sgnQ (lef2 gs ts gn hn) != 0)=true:=by
       have hz1:sgnQ (lef2 gs ts gn hn)≠0:=fun hh=>hz (sgnQ_zero hh);simpa using hz1
      generalize lef2 gs ts gn hn=sq at *;generalize sgnQ sq=sg at *;clear hz hgb hls HGD HX' HQH
      go_wp2_with fail
      refine TSG.out.mono ?_;rintro e v8 ⟨rfl,hbx⟩;have HB8:=Hj (HT.out.1.trans (Below.mono hbx HT.out.1.size));have HK8:=Hj (HKW.out.trans (Below.mono hbx HKW.out.size));clear hbx HT HKW TSG;have hbX:=HX6.out.below HK8.out HX6.out.lt;have hbB:=HB8.out;have hY:Blk ((((v8.setCell ⟨w.heap.size,0,none⟩ (.bool false)).setCell ⟨w.heap.size,1,none⟩ (.slice none 0 0)).setCell ⟨w.heap.size,2,none⟩ (.bool false)).setCell ⟨w.heap.size,3,none⟩ (.slice none 0 0)) w.heap.size 42 #[.bool false,.slice none 0 0,.bool false,.slice none 0 0]:=hbX.put4 (o:=0);have hG:Below w.heap.size w ((((v8.setCell ⟨w.heap.size,0,none⟩ (.bool false)).setCell ⟨w.heap.size,1,none⟩ (.slice none 0 0)).setCell ⟨w.heap.size,2,none⟩ (.bool false)).setCell ⟨w.heap.size,3,none⟩ (.slice none 0 0)):=below_qst (o:=0) (a:=false) (b:=false) (A:=none) (A':=none) (k:=0) (c:=0) (k':=0) (c':=0) hbB (Nat.le_refl _);obtain ⟨i4,i5,i6,i7,f4,f5,f6,f7⟩:=hbX.four;obtain ⟨d0,d1,d2,d3,-,-,-,-⟩:=hY.four;have HF:=Hj hG;clear hY hG hbX hbB HB8 HK8;go_wp2;refine bodyPost_ret (v:=.tuple #[.agg #[.bool false,.slice none 0 0,.bool false,.slice none 0 0],.int .i64 10]) ?_ rfl ?_
      ·simp [results,Tryz.results59,go_sem,d0,d1,d2,d3]
      ·exact rwel_err HE.out (by decide) HF.out
theorem rwelfare_any (A B G H:Option Addr) (n c k d gn gc hn hc:Nat) (os bs:List (List (Int×Int))) (gs ts:List Rat) (w:World) (h:CsAt w A n os) (h':CsAt w B k bs) (hg:QsS 7 w G gn gs) (ht:QsS 7 w H hn ts):Calls Tryz.prog 59 #[.slice A n c,.slice B k d,.slice G gn gc,.slice H hn hc] w (RWelP w os bs gs ts):=by
 by_cases hc0:ckB os bs=0
 ·by_cases hl:gn=n∧hn=k
  ·exact rwelfare_main A B G H n c k d gn gc hn hc os bs gs ts w h h' hg ht hc0 hl.1 hl.2
  ·exact rwelfare_e2 A B G H n c k d gn gc hn hc os bs gs ts w h h' hg ht hc0 (by omega)
 ·exact rwelfare_e1 A B G H n c k d gn gc hn hc os bs gs ts w h h' hg ht hc0
end Go.Proofs.YtjajigkacccdgaaGreat
