/-
Lemmas of the walk; no further conditions.
-/
import Derived.Test.YtjajigkacccdgaaGreatTfBC
set_option linter.unusedVariables false
set_option linter.unusedSimpArgs false
set_option maxRecDepth 100000
set_option maxHeartbeats 16000000
namespace Go.Proofs.YtjajigkacccdgaaGreat
open Go.RowKit
open Wd
def RAllocP (l:List (Int×Int)) (q:Rat) (n:Nat) (w:World) (e:Ending) (w':World):Prop :=
 ∃ Ah ch,e=.returned (.tuple #[.slice Ah n ch,.int .i64 0])∧QsAt w' Ah n (partsA l q n)∧Below w.heap.size w w'
theorem ralloc_ok (A:Option Addr) (n c:Nat) (l:List (Int×Int)) (w:World) (h:StAt w A n l) (he:curveE l=0) (an an':Bool) (aA aA':Option Addr) (ak ac ak' ac':Nat) (q:Rat) (hq:QS 7 w an aA ak ac an' aA' ak' ac' q) (h0:0≤q) (h1:q≤((qsum l:Int):Rat)) :
  Calls Tryz.prog 155 #[.slice A n c,.agg #[.bool an,.slice aA ak ac,.bool an',.slice aA' ak' ac']] w (RAllocP l q n w):=by
 obtain ⟨hn0,hn3,hok⟩:=curve_ok he;have hln:=h.1;have hbd:=qsum_bd l hok;have hlen:(l.length:Int)≤3:=by omega
 have hsum:sumS l=qsum l:=by unfold sumS;rw [if_pos he]
 have CC:=fun W (hW:Below w.heap.size w W)=>rcurve_any A n c l W (h.below hW);have SM:=fun W (hW:Below w.heap.size w W)=>rsum_any A n c l W (h.below hW);rw [he] at CC;rw [hsum] at SM;have SG:=fun W (hW:Below w.heap.size w W)=>rsignq_s (s:=7) (by decide) an an' aA aA' ak ac ak' ac' q W (hq.below hW);have TL:=Hj (fun W (hW:Below w.heap.size w W)=>rleastq_s (s:=7) (by decide) an an' aA aA' ak ac ak' ac' q W (hq.below hW));have FI:=fun W=>rint_any (qsum l) W (by omega) (by omega);have hl3:Ls 7 ((qsum l:Int):Rat):=(ls_int (Nat.le_refl 3) (by omega)).mono (by decide);have CM:=fun (W:World) (hW:Below w.heap.size w W) (B:Option Addr) (k d:Nat) (B':Option Addr) (k' d':Nat) (h:RQ W ((qsum l:Int):Rat) B k d B' k' d')=>rcmpq_s (s:=7) (by decide) an an' _ false aA aA' B B' ak ac ak' ac' k d k' d' q _ W (hq.below hW) (h.qs hl3 (by decide));have hsg:decide (sgnQ q<0)=false:=by
  have hneg:¬ q<0:=by grind
  have h1:¬ q.num<0:=fun hh=>hneg ((num_ltW q).2 hh);apply decide_eq_false;unfold sgnQ;rcases Int.lt_trichotomy q.num 0 with h2|h2|h2
  ·exact absurd h2 h1
  ·rw [h2];decide
  ·rw [cmpI_gt h2];decide
 have hcm:decide (0<cmpQ q ((qsum l:Int):Rat))=false:=by
  apply decide_eq_false;intro hh;have:cmpQ q ((qsum l:Int):Rat)=1:=by
   rcases cmpQ_cases q ((qsum l:Int):Rat) with h2|h2|h2
   ·rw [h2] at hh;exact absurd hh (by decide)
   ·rw [h2] at hh;exact absurd hh (by decide)
   ·exact h2
  have:=cmpQ_gt.1 this;grind
 have HX:=Hj h;have HOK:=Hj hok;have HLN:=Hj hln;have HN3:=Hj (show n≤3 by omega);have HQ0:=Hj h0;have HLQ:=Hj hq.ls;clear hl3 hln hbd hlen hsum hn0 h hq h0 h1 hok he;generalize qsum l=sl at *;generalize ((sl:Int):Rat)=qs at *;generalize sgnQ q=sq at *;generalize cmpQ q qs=cq at *;have SG:=Hj SG;have CC:=Hj CC;have SM:=Hj SM;have FI:=Hj FI;have CM:=Hj CM;unfold RAllocP;go_enter Tryz.func155,Tryz.ntmps155
 go_wp2_with fail
 have hB0:=Blk.new w 42 #[.bool an,.slice aA ak ac,.bool an',.slice aA' ak' ac'];have hBW:Below w.heap.size w (w.alloc (.cells #[.bool an,.slice aA ak ac,.bool an',.slice aA' ak' ac'] 42)):=(Below.refl _ _).alloc (Nat.le_refl _) _;generalize w.alloc (.cells #[.bool an,.slice aA ak ac,.bool an',.slice aA' ak' ac'] 42)=W at *;refine (CC.out W hBW).mono ?_;rintro e w1 ⟨rfl,hb1⟩;have hB1:=hB0.below hb1 hB0.lt;have hBW1:Below w.heap.size w w1:=hBW.trans (hb1.mono hBW.size);have HBK:=Hj (show ∀ w',Kp w1 w'→Below w.heap.size w w' from fun w' hk=>hBW1.trans (Below.mono hk hBW1.size));clear hb1 hB0 hBW hBW1 CC
 go_wp2_with fail
 refine held_at (W:=w1) (C:=fun w'=>w'.cell? ⟨w.heap.size,0,none⟩=some (.bool an)∧w'.cell? ⟨w.heap.size,1,none⟩=some (.slice aA ak ac)∧w'.cell? ⟨w.heap.size,2,none⟩=some (.bool an')∧w'.cell? ⟨w.heap.size,3,none⟩=some (.slice aA' ak' ac')) (fun w' hk=>⟨(hk.blk hB1).cell 0,(hk.blk hB1).cell 1,(hk.blk hB1).cell 2,(hk.blk hB1).cell 3⟩) (Kp.refl w1) (fun HS hH0=>?_);refine tq 0 ?_;refine rd1 1 fun K hK=>?_
 (try simp only [p1,p2,p3])
 go_simp;have hk:=And.right ‹_∧Kp w1 _›;refine (SG.out _ (HBK.out _ hk)).mono ?_;rintro e v1 ⟨rfl,hbx⟩;have hp:Kp w1 v1:=Kp.trans hk hbx;clear hk hbx
 (try (go_wp2_with fail))
 refine hK.out _ _ (HS.out _ hp) fun hH12=>?_;clear hK K hH0
 (try simp only [Act.put,p1,p2,p3,p4,p5,p6])
 refine tq 2 ?_;refine tq 3 ?_;refine tq 4 ?_;refine tq 5 ?_;refine rd1 6 fun K hK=>?_
 (try simp only [p1,p2,p3])
 go_simp;have hk:=And.right ‹_∧Kp w1 _›;refine (SM.out _ (HBK.out _ hk)).mono ?_;rintro e v2 ⟨rfl,hbx⟩;have hp:Kp w1 v2:=Kp.trans hk hbx;clear hk hbx
 (try (go_wp2_with fail))
 refine hK.out _ _ (HS.out _ hp) fun hH13=>?_;clear hK K hH12
 (try simp only [Act.put,p1,p2,p3,p4,p5,p6])
 refine rd1 7 fun K hK=>?_
 (try simp only [p1,p2,p3])
 go_simp;have hk:=And.right ‹_∧Kp w1 _›;refine (FI.out _).mono ?_;rintro e v3 ⟨A3,k3,c3,A4,k4,c4,rfl,hk3,hk4,hW3,hW4,-,-,hbx⟩;have hp:Kp w1 v3:=Kp.trans hk hbx;have hrq:=(show RQ v3 qs A3 k3 c3 A4 k4 c4 from ⟨hk3,hk4,hW3,hW4⟩);clear hk hbx hk3 hk4 hW3 hW4
 (try (go_wp2_with fail))
 refine hK.out _ _ (HS.out _ hp) fun hH14=>?_;clear hK K hH13
 (try simp only [Act.put,p1,p2,p3,p4,p5,p6])
 refine rd1 8 fun K hK=>?_
 (try simp only [p1,p2,p3])
 go_simp;have hk:=And.right ‹_∧Kp w1 _›;refine (CM.out _ (HBK.out _ hk) _ _ _ _ _ _ hrq).mono ?_;rintro e v4 ⟨rfl,hbx⟩;have hp:Kp w1 v4:=Kp.trans hk hbx;clear hk hbx hrq
 (try (go_wp2_with fail))
 refine hK.out _ _ (HS.out _ hp) fun hH15=>?_;clear hK K hH14
 (try simp only [Act.put,p1,p2,p3,p4,p5,p6])
 refine tq 9 ?_;refine tq 10 ?_;refine wpAnyH_done (by kernel_rfl) ?_ _;clear hH15;obtain ⟨⟨f0,f1,f2,f3⟩,-⟩:=HS.out v4 hp;have HV4:=Hj (HBK.out _ hp);clear hp HS HBK hB1
 go_wp2_with fail
 refine (TL.out v4 HV4.out).mono ?_;rintro e u1 ⟨F3,f3',g3,G3,i3,j3,rfl,hz1,hz2,hz3,hz4,hz5,hz6,hb1⟩;have hB7:=Blk.new u1 42 #[.bool (decide (q.num<0)),.slice F3 f3' g3,.bool false,.slice G3 i3 j3];have hxV:=(Kp.refl u1).alloc (.cells #[.bool (decide (q.num<0)),.slice F3 f3' g3,.bool false,.slice G3 i3 j3] 42);have hw1:Below w.heap.size w u1:=HV4.out.trans (hb1.mono HV4.out.size);have HV:=Hj (And.intro (hw1.trans (Below.mono hxV (Below.size hw1))) (And.intro (Below.size hw1) (And.intro hB7 (RQ.below (show RQ u1 q F3 f3' g3 G3 i3 j3 from ⟨hz1,hz2,hz3,hz4⟩) hxV))));have HFF:=Hj (And.intro (hz5.mono (Nat.le_refl _)) (hz6.mono (Nat.le_refl _)));clear hz1 hz2 hz3 hz4 hz5 hz6 hb1 TL HV4 f0 f1 f2 f3 hB7 hxV hw1
 go_wp2_with fail
 generalize u1.alloc (.cells #[.bool (decide (q.num<0)),.slice F3 f3' g3,.bool false,.slice G3 i3 j3] 42)=V at *;generalize u1.heap.size=g at *;obtain ⟨ii,hii,hz0,hz1,hz2⟩:=info_parts info_q;have HI:=Hj hii;have HZ0:=Hj hz0;have HZ1:=Hj hz1;have HZ2:=Hj hz2;have HGV:=Hj HV.out.2.2.1.lt;have HMS:=Hj (partsA_len l q n);have HMI:=Hj (fun j (hj:j<n)=>partsA_get (l:=l) (q:=q) hj);generalize hmse:partsA l q n=ms at *;have HME:=Hj hmse;clear hii hz0 hz1 hz2 hmse
 go_loopw [8,9] (fun th t wr=>∃ (i:Nat) (Ah:Option Addr) (ch:Nat) (es:List QEnt),i≤n∧th=.slice Ah i ch∧t=.int .i64 (i:Int)∧Hid (PyI g V ms (restAt l q i) i Ah ch es wr)) (fun _ t _=>n-(intOf t).toNat)
 case atStart=>exact ⟨0,none,0,[],Nat.zero_le _,rfl,rfl,Hj ⟨Below.refl _ _,Own.nil _ _ _ _,QEnts.start,F3,f3',g3,G3,i3,j3,HV.out.2.2.1,HV.out.2.2.2,Off.fresh HFF.out.1 (fun b hb=>by simp at hb),Off.fresh HFF.out.2 (fun b hb=>by simp at hb)⟩⟩
 case round =>
  obtain ⟨i,Ah,ch,es,hi,rfl,rfl,HR0⟩:=hrel;by_cases hlt:i<n
  ·obtain ⟨r1,r2,r3,A5,k5,c5,A6,k6,c6,r4,r5,r6,r7⟩:=HR0.out;have hwr:=HV.out.1.trans (r1.mono HV.out.2.1);obtain ⟨b,o,rfl,hb,hc⟩:=HX.out.2.2 (by omega);obtain ⟨y0,-⟩:=hc i hlt;replace y0:=(hwr.cell (p:=⟨b,o+i*2,none⟩) hb).trans y0;have hbr:b<wr.heap.size:=Nat.lt_of_lt_of_le hb hwr.size;have hkl:i<l.length:=by rw [HLN.out];exact hlt
   have hbad:=HOK.out _ (getD_mem (d:=((0,0):Int×Int)) hkl);have hmi:=HMI.out i hlt;have h3:=wb_three;have h3s:=wb_mono (show 3≤7 by decide);obtain ⟨hl0,hl1,hl2⟩:=restAt_bd HQ0.out HOK.out HLQ.out.1 HLQ.out.2 i (by omega);have hleft:Ls 7 (restAt l q i):=⟨hl1,hl2⟩;have hyl:Ls 7 (partAt l q i):=partAt_bd HQ0.out HOK.out HLQ.out.1 HLQ.out.2 (by omega) (by omega) hkl;have hpt:partAt l q i=lessQ (restAt l q i) (l[i]?.getD (0,0)).1:=rfl;have hst:restAt l q (i+1)=restAt l q i-partAt l q i:=rfl;rw [hpt] at hst hmi hyl;generalize restAt l q i=left at *;generalize (l[i]?.getD (0,0)).1=sq at *;unfold Bad at hbad;have hl3:Ls 7 ((sq:Int):Rat):=(ls_int (Nat.le_refl 3) (by omega)).mono (by decide);have TI:=Hj (fun W=>rint_any sq W (by omega) (by omega));have TM:=Hj (fun (W:World) (hW:Kp wr W) (R R':Option Addr) (k d k' d':Nat) (hh:RQ W ((sq:Int):Rat) R k d R' k' d')=>(show Calls Tryz.prog 77 #[.agg #[.bool (decide (left.num<0)),.slice A5 k5 c5,.bool false,.slice A6 k6 c6],.agg #[.bool (decide (((sq:Int):Rat).num<0)),.slice R k d,.bool false,.slice R' k' d']] W (RetQ W (lessQ left sq)) from rminq_s (s:=7) (by decide) _ false _ false A5 A6 R R' k5 c5 k6 c6 k d k' d' left _ W ((RQ.below r5 hW).qs hleft (by decide)) (hh.qs hl3 (by decide))));generalize lessQ left sq=yq at *;have HLT:=Hj (fun m (hm:wr.heap.size≤m) b (hb:Ah.map (fun a=>a.block)=some b)=>Nat.lt_of_lt_of_le (r2.blk_lt b hb) hm);have HR:=Hj (And.intro r1 (And.intro r2 r3));have HBX:=Hj (And.intro r4 (And.intro r5 (And.intro r6 r7)));have HYQ:=Hj hmi;have HYL:=Hj hyl;have HSL:=Hj hleft;have HSTEP:=Hj hst;have HWR:=Hj hwr;have i1:(0:Int)≤(i:Int):=by omega
   have i2:(i:Int)<(n:Int):=by omega
   clear HR0 r1 r2 r3 r4 r5 r6 r7 hwr hb hc hkl hbad hmi h3 h3s hl0 hl1 hl2 hleft hyl hpt hst hl3
   go_wp2_with fail
   apply join_at
   case h =>
    intro key;refine held_at (W:=wr) (C:=fun w'=>w'.cell? ⟨g,0,none⟩=some (.bool (decide (left.num<0)))∧w'.cell? ⟨g,1,none⟩=some (.slice A5 k5 c5)∧w'.cell? ⟨g,2,none⟩=some (.bool false)∧w'.cell? ⟨g,3,none⟩=some (.slice A6 k6 c6)∧w'.cell? ⟨b,o+i*2,none⟩=some (.int .i64 sq)) (fun w' hk=>⟨(Kp.blk hk HBX.out.1).cell 0,(Kp.blk hk HBX.out.1).cell 1,(Kp.blk hk HBX.out.1).cell 2,(Kp.blk hk HBX.out.1).cell 3,(Below.cell hk (p:=⟨b,_,none⟩) hbr).trans y0⟩) (Kp.refl wr) (fun HS hH0=>?_);refine tq 0 ?_;refine tq 1 ?_;refine tq 2 ?_;refine tq 3 ?_;refine tq 4 ?_;refine tq 5 ?_;refine rd2 6 8 (fun K hK=>?_) (fun K hK=>?_)
    ·(try simp only [p1,p2,p3])
     go_simp;have hk:=And.right ‹_∧Kp wr _›;refine (TI.out _).mono ?_;rintro e v6 ⟨N1,n1,n2,N2,n3,n4,rfl,hk9,hj9,hW9,hX9,-,-,hbx⟩;have hp:=Kp.trans hk hbx;have r1q:RQ v6 ((sq:Int):Rat) N1 n1 n2 N2 n3 n4:=⟨hk9,hj9,hW9,hX9⟩
     (try replace hb12:=Blk.below hb12 hbx hb12.lt)
     clear hk hbx hk9 hj9 hW9 hX9
     (try (go_wp2_with fail))
     refine hK.out _ _ (HS.out _ hp) fun hH1=>?_;clear hK K hH0
     (try simp only [Act.put,p1,p2,p3,p4,p5,p6])
     refine rd2 7 8 (fun K hK=>?_) (fun K hK=>?_)
     ·(try simp only [p1,p2,p3])
      go_simp;have hk:=And.right ‹_∧Kp wr _›
      first|refine (TM.out _ hk _ _ _ _ _ _ r1q).mono ?_|refine (TM.out _ hk _ _ _ _ _ _ (RQ.below r1q ((Kp.refl v6).alloc _))).mono ?_
      rintro e v7 ⟨A1,k1,c1,A2,k2,c2,rfl,hk9,hj9,hW9,hX9,hF9,hG9,hbx⟩;have hp:=Kp.trans hk hbx;have r2q:RQ v7 yq A1 k1 c1 A2 k2 c2:=⟨hk9,hj9,hW9,hX9⟩;have HOF:=Hj (And.intro (Off.fresh hF9 (HLT.out _ (Below.size hk))) (Off.fresh hG9 (HLT.out _ (Below.size hk))))
      (try replace hb12:=Blk.below hb12 hbx hb12.lt)
      clear hk hbx hk9 hj9 hW9 hX9 hF9 hG9 r1q
      (try (go_wp2_with fail))
      refine hK.out _ _ (HS.out _ hp) fun hH2=>?_;clear hK K hH1
      (try simp only [Act.put,p1,p2,p3,p4,p5,p6])
      refine rd1 8 fun K hK=>?_
      (try simp only [p1,p2,p3])
      go_simp;have hk:=And.right ‹_∧Kp wr _›;have hg12:=Below.size hk;have hb12:=blk_hereS hk 42 #[.bool false,.slice none 0 0,.bool false,.slice none 0 0]
      (try simp only [sz_drewS] at hb12 hg12)
      refine hK.out _ _ (by first|exact HS.out _ (Kp.alloc hk _)|exact HS.out _ (Kp.drew (Kp.alloc (Kp.refl wr) _))) fun hH3=>?_;clear hK K hH2
      (try simp only [Act.put,p1,p2,p3,p4,p5,p6])
      refine rd1 9 fun K hK=>?_;have hk:=And.right ‹_∧Kp wr _›;obtain ⟨_,_,_,_,i0,i1',i2',i3⟩:=hb12.four
      (try simp only [p1,p2,p3])
      go_simp;refine hK.out _ _ (by first|exact HS.out _ (Kp.alloc hp _)|exact HS.out _ (kp_set4 hk hg12 _ _ _ _)) fun hH4=>?_;clear hK K hH3
      (try simp only [Act.put,p1,p2,p3,p4,p5,p6])
      refine wpAnyH_done (by kernel_rfl) ?_ _;clear hH4;have hkY:=Kp.alloc hp (.cells #[.bool (decide (yq.num<0)),.slice A1 k1 c1,.bool false,.slice A2 k2 c2] 42);have hbY:=Blk.new v7 42 #[.bool (decide (yq.num<0)),.slice A1 k1 c1,.bool false,.slice A2 k2 c2];have hqY:=WQ.below r2q ((Kp.refl v7).alloc (.cells #[.bool (decide (yq.num<0)),.slice A1 k1 c1,.bool false,.slice A2 k2 c2] 42));have hgY:=Below.size hp;clear hk hp hb12 hg12 i0 i1' i2' i3 r2q;generalize v7.alloc (.cells #[.bool (decide (yq.num<0)),.slice A1 k1 c1,.bool false,.slice A2 k2 c2] 42)=Y at *;generalize v7.heap.size=gx at hbY hgY ⊢;revert HOF;revert hgY;revert hqY;revert hbY;revert hkY;revert c2;revert k2;revert A2;revert c1;revert k1;revert A1;revert n4;revert n3;revert N2;revert n2;revert n1;revert N1;revert gx;revert Y;exact key.out
     ·(try simp only [p1,p2,p3])
      go_simp;have hk:=And.right ‹_∧Kp wr _›;have hg12:=Below.size hk;have hb12:=blk_hereS hk 42 #[.bool false,.slice none 0 0,.bool false,.slice none 0 0]
      (try simp only [sz_drewS] at hb12 hg12)
      refine hK.out _ _ (by first|exact HS.out _ (Kp.alloc hk _)|exact HS.out _ (Kp.drew (Kp.alloc (Kp.refl wr) _))) fun hH5=>?_;clear hK K hH1
      (try simp only [Act.put,p1,p2,p3,p4,p5,p6])
      refine rd1 7 fun K hK=>?_
      (try simp only [p1,p2,p3])
      go_simp;have hk:=And.right ‹_∧Kp wr _›
      first|refine (TM.out _ hk _ _ _ _ _ _ r1q).mono ?_|refine (TM.out _ hk _ _ _ _ _ _ (RQ.below r1q ((Kp.refl v6).alloc _))).mono ?_
      rintro e v7 ⟨A1,k1,c1,A2,k2,c2,rfl,hk9,hj9,hW9,hX9,hF9,hG9,hbx⟩;have hp:=Kp.trans hk hbx;have r2q:RQ v7 yq A1 k1 c1 A2 k2 c2:=⟨hk9,hj9,hW9,hX9⟩;have HOF:=Hj (And.intro (Off.fresh hF9 (HLT.out _ (Below.size hk))) (Off.fresh hG9 (HLT.out _ (Below.size hk))))
      (try replace hb12:=Blk.below hb12 hbx hb12.lt)
      clear hk hbx hk9 hj9 hW9 hX9 hF9 hG9 r1q
      (try (go_wp2_with fail))
      refine hK.out _ _ (HS.out _ hp) fun hH6=>?_;clear hK K hH5
      (try simp only [Act.put,p1,p2,p3,p4,p5,p6])
      refine rd1 9 fun K hK=>?_;have hk:=And.right ‹_∧Kp wr _›;obtain ⟨_,_,_,_,i0,i1',i2',i3⟩:=hb12.four
      (try simp only [p1,p2,p3])
      go_simp;refine hK.out _ _ (by first|exact HS.out _ (Kp.alloc hp _)|exact HS.out _ (kp_set4 hk hg12 _ _ _ _)) fun hH7=>?_;clear hK K hH6
      (try simp only [Act.put,p1,p2,p3,p4,p5,p6])
      refine wpAnyH_done (by kernel_rfl) ?_ _;clear hH7;have hkY:=kp_set4 hp hg12 (.bool (decide (yq.num<0))) (.slice A1 k1 c1) (.bool false) (.slice A2 k2 c2);have hbY:=(show Blk (qst v7 v6.heap.size 0 (decide (yq.num<0)) false A1 A2 k1 c1 k2 c2) v6.heap.size 42 #[.bool (decide (yq.num<0)),.slice A1 k1 c1,.bool false,.slice A2 k2 c2] from hb12.put4);have hqY:=WQ.put4 (o:=0) (a:=decide (yq.num<0)) (b:=false) (B:=A1) (B':=A2) (j:=k1) (d:=c1) (j':=k2) (d':=c2) r2q hb12 NoInt.four;simp only [qst,Nat.zero_add] at hbY hqY;have hgY:=hg12;clear hk hp hb12 hg12 i0 i1' i2' i3 r2q;generalize (((v7.setCell ⟨v6.heap.size,0,none⟩ (.bool (decide (yq.num<0)))).setCell ⟨v6.heap.size,1,none⟩ (.slice A1 k1 c1)).setCell ⟨v6.heap.size,2,none⟩ (.bool false)).setCell ⟨v6.heap.size,3,none⟩ (.slice A2 k2 c2)=Y at *;generalize hgxe:v6.heap.size=gx at hbY ⊢;replace hgY:wr.heap.size≤gx:=by rw [← hgxe];exact hgY
      clear hgxe;revert HOF;revert hgY;revert hqY;revert hbY;revert hkY;revert c2;revert k2;revert A2;revert c1;revert k1;revert A1;revert n4;revert n3;revert N2;revert n2;revert n1;revert N1;revert gx;revert Y;exact key.out
    ·(try simp only [p1,p2,p3])
     go_simp;have hk:=And.right ‹_∧Kp wr _›;have hg12:=Below.size hk;have hb12:=blk_hereS hk 42 #[.bool false,.slice none 0 0,.bool false,.slice none 0 0]
     (try simp only [sz_drewS] at hb12 hg12)
     refine hK.out _ _ (by first|exact HS.out _ (Kp.alloc hk _)|exact HS.out _ (Kp.drew (Kp.alloc (Kp.refl wr) _))) fun hH8=>?_;clear hK K hH0
     (try simp only [Act.put,p1,p2,p3,p4,p5,p6])
     refine rd1 6 fun K hK=>?_
     (try simp only [p1,p2,p3])
     go_simp;have hk:=And.right ‹_∧Kp wr _›;refine (TI.out _).mono ?_;rintro e v6 ⟨N1,n1,n2,N2,n3,n4,rfl,hk9,hj9,hW9,hX9,-,-,hbx⟩;have hp:=Kp.trans hk hbx;have r1q:RQ v6 ((sq:Int):Rat) N1 n1 n2 N2 n3 n4:=⟨hk9,hj9,hW9,hX9⟩
     (try replace hb12:=Blk.below hb12 hbx hb12.lt)
     clear hk hbx hk9 hj9 hW9 hX9
     (try (go_wp2_with fail))
     refine hK.out _ _ (HS.out _ hp) fun hH9=>?_;clear hK K hH8
     (try simp only [Act.put,p1,p2,p3,p4,p5,p6])
     refine rd1 7 fun K hK=>?_
     (try simp only [p1,p2,p3])
     go_simp;have hk:=And.right ‹_∧Kp wr _›
     first|refine (TM.out _ hk _ _ _ _ _ _ r1q).mono ?_|refine (TM.out _ hk _ _ _ _ _ _ (RQ.below r1q ((Kp.refl v6).alloc _))).mono ?_
     rintro e v7 ⟨A1,k1,c1,A2,k2,c2,rfl,hk9,hj9,hW9,hX9,hF9,hG9,hbx⟩;have hp:=Kp.trans hk hbx;have r2q:RQ v7 yq A1 k1 c1 A2 k2 c2:=⟨hk9,hj9,hW9,hX9⟩;have HOF:=Hj (And.intro (Off.fresh hF9 (HLT.out _ (Below.size hk))) (Off.fresh hG9 (HLT.out _ (Below.size hk))))
     (try replace hb12:=Blk.below hb12 hbx hb12.lt)
     clear hk hbx hk9 hj9 hW9 hX9 hF9 hG9 r1q
     (try (go_wp2_with fail))
     refine hK.out _ _ (HS.out _ hp) fun hH10=>?_;clear hK K hH9
     (try simp only [Act.put,p1,p2,p3,p4,p5,p6])
     refine rd1 9 fun K hK=>?_;have hk:=And.right ‹_∧Kp wr _›;obtain ⟨_,_,_,_,i0,i1',i2',i3⟩:=hb12.four
     (try simp only [p1,p2,p3])
     go_simp;refine hK.out _ _ (by first|exact HS.out _ (Kp.alloc hp _)|exact HS.out _ (kp_set4 hk hg12 _ _ _ _)) fun hH11=>?_;clear hK K hH10
     (try simp only [Act.put,p1,p2,p3,p4,p5,p6])
     refine wpAnyH_done (by kernel_rfl) ?_ _;clear hH11;have hkY:=kp_set4 hp hg12 (.bool (decide (yq.num<0))) (.slice A1 k1 c1) (.bool false) (.slice A2 k2 c2);have hbY:=(show Blk (qst v7 wr.heap.size 0 (decide (yq.num<0)) false A1 A2 k1 c1 k2 c2) wr.heap.size 42 #[.bool (decide (yq.num<0)),.slice A1 k1 c1,.bool false,.slice A2 k2 c2] from hb12.put4);have hqY:=WQ.put4 (o:=0) (a:=decide (yq.num<0)) (b:=false) (B:=A1) (B':=A2) (j:=k1) (d:=c1) (j':=k2) (d':=c2) r2q hb12 NoInt.four;simp only [qst,Nat.zero_add] at hbY hqY;have hgY:=hg12;clear hk hp hb12 hg12 i0 i1' i2' i3 r2q;generalize (((v7.setCell ⟨wr.heap.size,0,none⟩ (.bool (decide (yq.num<0)))).setCell ⟨wr.heap.size,1,none⟩ (.slice A1 k1 c1)).setCell ⟨wr.heap.size,2,none⟩ (.bool false)).setCell ⟨wr.heap.size,3,none⟩ (.slice A2 k2 c2)=Y at *;generalize hgxe:wr.heap.size=gx at hbY ⊢;replace hgY:wr.heap.size≤gx:=by rw [← hgxe];exact hgY
     clear hgxe;revert HOF;revert hgY;revert hqY;revert hbY;revert hkY;revert c2;revert k2;revert A2;revert c1;revert k1;revert A1;revert n4;revert n3;revert N2;revert n2;revert n1;revert N1;revert gx;revert Y;exact key.out
   case k =>
    intro Y gx N1 n1 n2 N2 n3 n4 A1 k1 c1 A2 k2 c2 hkY hbY hqY hgY HOF;clear TI TM;obtain ⟨f0,f1,f2,f3,-,-,-,-⟩:=hbY.four;have hO1:=(HR.out.2.1.keep hkY).keep ((Kp.refl Y).alloc (.cells #[.bool (decide (yq.num<0)),.slice A1 k1 c1,.bool false,.slice A2 k2 c2] 42));have m1:=Blk.new Y 42 #[.bool (decide (yq.num<0)),.slice A1 k1 c1,.bool false,.slice A2 k2 c2];have s1:Kp wr (Y.alloc (.cells #[.bool (decide (yq.num<0)),.slice A1 k1 c1,.bool false,.slice A2 k2 c2] 42)):=Kp.alloc hkY _;have hs0:V.heap.size≤(Y.alloc (.cells #[.bool (decide (yq.num<0)),.slice A1 k1 c1,.bool false,.slice A2 k2 c2] 42)).heap.size:=Nat.le_trans (Below.size HR.out.1) (Below.size s1);have hne:Ah.map (fun a=>a.block)≠some gx:=fun he=>by
     have:=HR.out.2.1.blk_lt _ he;omega
    have HY:=Hj (And.intro hkY (And.intro hbY (And.intro hqY (And.intro s1 hne))));have hin:i≤3:=by have:=HN3.out;omega
    clear hkY hbY hqY hgY hne
    go_wp2_with (first
     | (at_builtin;refine wpList_append_at rfl (base:=V.heap.size) (e:=42) (size:=4) (bytes:=64) (.tmp 43) (.tmp 45) 46 rfl Tryz.underlying46 HI.out HZ0.out HZ1.out HZ2.out rfl (by decide) (xs:=qCells es) (news:=[.bool (decide (yq.num<0)),.slice A1 k1 c1,.bool false,.slice A2 k2 c2]) rfl (by exact hO1) rfl (by exact Blk.src m1 rfl (qCells_one [(decide (yq.num<0),(A1,k1,c1),(A2,k2,c2))])) (by simp only [maxLen];omega) (by omega) (by exact hs0) ?_
        intro B2 cb2 w2' hO2 hb2 hk2 hs2;have hbg:=(Kp.blk HY.out.2.2.2.1 HBX.out.1).below hb2 HGV.out;have hbx2:=Kept.blk hk2 (HY.out.2.1.alloc _) HY.out.2.2.2.2;obtain ⟨c0,c1',c2',c3,-,-,-,-⟩:=hbg.four;obtain ⟨d0,d1,d2,d3,-,-,-,-⟩:=hbx2.four;have HP:=Hj (And.intro hO2 (And.intro hb2 (And.intro hk2 (And.intro hs2 hbg))));clear hO2 hb2 hk2 hs2 hbg hbx2))
    obtain ⟨hO2,hb2,hk2,hs2,hbg⟩:=HP.out;have ka:=(Kp.refl Y).alloc (.cells #[.bool (decide (yq.num<0)),.slice A1 k1 c1,.bool false,.slice A2 k2 c2] 42);have hyw:RQ w2' yq A1 k1 c1 A2 k2 c2:=by
     have y:=(HY.out.2.2.1).below ka;exact ⟨y.1,y.2.1,y.2.2.1.kept HOF.out.1 hk2,y.2.2.2.kept HOF.out.2 hk2⟩
    have hlw:RQ w2' left A5 k5 c5 A6 k6 c6:=by
     have y:=HBX.out.2.1.below HY.out.2.2.2.1;exact ⟨y.1,y.2.1,y.2.2.1.kept HBX.out.2.2.1 hk2,y.2.2.2.kept HBX.out.2.2.2 hk2⟩
    have hen:QEnts B2 ms w2' (i+1) (es ++ [(decide (yq.num<0),(A1,k1,c1),(A2,k2,c2))]):=by
     have he1:=((HR.out.2.2.below HY.out.1).snoc (by rw [HYQ.out]) (by rw [HYQ.out];exact HY.out.2.2.1) HOF.out.1 HOF.out.2);exact (he1.below ka).app hk2 hs2
    have hbv:Below g V w2':=(HR.out.1.trans (Below.mono HY.out.2.2.2.1 (Nat.le_trans (Nat.le_of_lt HGV.out) (Below.size HR.out.1)))).trans (hb2.mono (Nat.le_of_lt HGV.out));have hon:Own V.heap.size 42 4 w2' B2 (i+1) cb2 (qCells (es ++ [(decide (yq.num<0),(A1,k1,c1),(A2,k2,c2))])):=by
     rw [qCells_append];exact hO2
    have TS:=rsubq_s (s:=7) (by decide) (decide (left.num<0)) false (decide (yq.num<0)) false A5 A6 A1 A2 k5 c5 k6 c6 k1 c1 k2 c2 left yq w2' (hlw.qs HSL.out (by decide)) (hyw.qs HYL.out (by decide));refine TS.mono ?_;rintro e v5 ⟨Q1,q1,q2,Q2,q3,q4,rfl,hk9,hj9,hW9,hX9,hF9,hG9,hbx⟩;have b15:=Kp.blk hbx hbg;obtain ⟨_,_,_,_,f10,f11,f12,f13⟩:=b15.four;have hfin:PyI g V ms (left-yq) (i+1) B2 cb2 (es ++ [(decide (yq.num<0),(A1,k1,c1),(A2,k2,c2))]) ((((v5.setCell ⟨g,0,none⟩ (.bool (decide ((left-yq).num<0)))).setCell ⟨g,1,none⟩ (.slice Q1 q1 q2)).setCell ⟨g,2,none⟩ (.bool false)).setCell ⟨g,3,none⟩ (.slice Q2 q3 q4)):=by
     have hb:Kp w2' v5:=hbx;show PyI g V ms (left-yq) (i+1) B2 cb2 (es ++ [(decide (yq.num<0),(A1,k1,c1),(A2,k2,c2))]) (qst v5 g 0 (decide ((left-yq).num<0)) false Q1 Q2 q1 q2 q3 q4);have r5:RQ v5 (left-yq) Q1 q1 q2 Q2 q3 q4:=⟨hk9,hj9,hW9,hX9⟩;refine ⟨below_qst (hbv.trans (Below.mono hb (Nat.le_trans (Nat.le_of_lt HGV.out) (Below.size hbv)))) (Nat.le_refl _),(hon.keep hb).put4 HGV.out,(hen.below hb).put4 b15 NoInt.four,Q1,q1,q2,Q2,q3,q4,b15.put4,r5.put4 b15 NoInt.four,?_,?_⟩
     ·exact Off.fresh hF9 (fun b hb9=>hon.blk_lt b hb9)
     ·exact Off.fresh hG9 (fun b hb9=>hon.blk_lt b hb9)
    have HF:=Hj hfin;clear hfin hk9 hj9 hW9 hX9 hF9 hG9 hbx b15 hO2 hb2 hk2 hs2 hbg ka hyw hlw hen hbv hon TS HP HY;go_wp2;go_roundw
    case rel=>exact ⟨i+1,B2,cb2,_,by omega,rfl,by first|rfl|go_num,by rw [HSTEP.out];exact HF.out⟩
    case measure=>simp [intOf];omega
  ·obtain rfl:i=n:=by omega
   obtain ⟨r1,r2,r3,-⟩:=HR0.out;have HF:=Hj (And.intro (r2.qs (ps:=ms) HMS.out r3) (HV.out.1.trans (r1.mono HV.out.2.1)));clear HR0 r1 r2 r3;go_wp2;go_ret2;exact ⟨Ah,ch,rfl,by rw [HME.out];exact HF.out.1,HF.out.2⟩
def RCstR (w:World) (g:Nat) (V:World) (sm:Rat) (A:Option Addr) (k c:Nat) (A':Option Addr) (k' c':Nat) (wr:World):Prop :=
 Below g V wr∧Blk wr g 42 #[.bool (decide (sm.num<0)),.slice A k c,.bool false,.slice A' k' c']∧CQ w.heap.size wr sm A k c A' k' c'
def RErrQ (w:World) (x:Int) (e:Ending) (w':World):Prop:=∃ A k c A' k' c',e=.returned (.tuple #[.agg #[.bool false,.slice A k c,.bool false,.slice A' k' c'],.int .i64 x])∧Below w.heap.size w w'
theorem rcost_ok (A:Option Addr) (n c:Nat) (l:List (Int×Int)) (w:World) (h:StAt w A n l) (he:curveE l=0) (an an':Bool) (aA aA':Option Addr) (ak ac ak' ac':Nat) (q:Rat) (hq:QS 7 w an aA ak ac an' aA' ak' ac' q) (h0:0≤q) (h1:q≤((qsum l:Int):Rat)) :
  Calls Tryz.prog 115 #[.slice A n c,.agg #[.bool an,.slice aA ak ac,.bool an',.slice aA' ak' ac']] w (CstPost w (costAt l q n)):=by
 obtain ⟨hn0,hn3,hok⟩:=curve_ok he;have hln:=h.1;have TL:=Hj (fun W (hW:Below w.heap.size w W)=>ralloc_ok A n c l W (h.below hW) he an an' aA aA' ak ac ak' ac' q (hq.below hW) h0 h1);have TZ:=Hj (fun W=>rint_any 0 W (by omega) (by omega));have h3:=wb_three;have h3s:=wb_mono (show 3≤7 by decide);have hpl:∀ k,k<l.length→Ls 7 (partAt l q k):=fun k hk=>partAt_bd h0 hok hq.ls.1 hq.ls.2 (by omega) (by omega) hk;have hcl:∀ k,k≤l.length→Ls 60 (costAt l q k):=fun k hk=>(costAt_ls hpl (bad_price hok) k hk).mono (by omega);have HPL:=Hj hpl;have HCL:=Hj hcl;have HX:=Hj h;have HOK:=Hj hok;have HLN:=Hj hln;have HN3:=Hj (show n≤3 by omega);clear h3 h3s hpl hcl hln hn3 hn0 h hq h0 h1 hok he;unfold CstPost;go_enter Tryz.func115,Tryz.ntmps115;have hB0:=(Blk.new w 42 #[.bool an,.slice aA ak ac,.bool an',.slice aA' ak' ac']).alloc (.cells #[.bool false,.slice none 0 0,.bool false,.slice none 0 0] 42);have hB1:=Blk.new1 w (.cells #[.bool an,.slice aA ak ac,.bool an',.slice aA' ak' ac'] 42) 42 #[.bool false,.slice none 0 0,.bool false,.slice none 0 0];have hBW:Below w.heap.size w ((w.alloc (.cells #[.bool an,.slice aA ak ac,.bool an',.slice aA' ak' ac'] 42)).alloc (.cells #[.bool false,.slice none 0 0,.bool false,.slice none 0 0] 42)):=((Below.refl _ _).alloc (Nat.le_refl _) _).alloc (by simp only [World.size_alloc];omega) _;have hszW:((w.alloc (.cells #[.bool an,.slice aA ak ac,.bool an',.slice aA' ak' ac'] 42)).alloc (.cells #[.bool false,.slice none 0 0,.bool false,.slice none 0 0] 42)).heap.size=w.heap.size+1+1:=by simp
 go_wp2_with fail
 generalize (w.alloc (.cells #[.bool an,.slice aA ak ac,.bool an',.slice aA' ak' ac'] 42)).alloc (.cells #[.bool false,.slice none 0 0,.bool false,.slice none 0 0] 42)=W at *;refine (TL.out W hBW).mono ?_;rintro e w1 ⟨Ah,ch,rfl,hx,hb1⟩;have H1:=Hj (And.intro hx (And.intro hb1 (And.intro (hB1.below hb1 hB1.lt) (hBW.trans (hb1.mono hBW.size)))));have HSZ0:=Hj (show w.heap.size+1<w1.heap.size by have:=Below.size hb1;omega);clear hx hb1 hB0 hB1 hBW hszW TL
 go_wp2_with fail
 refine (TZ.out _).mono ?_;rintro e w2 ⟨F3,f3',g3,G3,i3,j3,rfl,hz1,hz2,hz3,hz4,hz5,hz6,hb2⟩;have hB7:=Blk.new w2 42 #[.bool false,.slice F3 f3' g3,.bool false,.slice G3 i3 j3];have hxV:=(Kp.refl w2).alloc (.cells #[.bool false,.slice F3 f3' g3,.bool false,.slice G3 i3 j3] 42);have hs1:w.heap.size≤w1.heap.size:=by have:=HSZ0.out;omega
 have hcq:CQ w.heap.size w2 ((0:Int):Rat) F3 f3' g3 G3 i3 j3:=⟨hz1,hz2,hz3,hz4,hz5.mono hs1,hz6.mono hs1⟩;have hx1:=H1.out.1;have hbb:=Kp.blk hxV (Kp.blk hb2 H1.out.2.2.1);have hww:=(H1.out.2.2.2.trans (hb2.mono hs1)).trans (Below.mono hxV (Nat.le_trans hs1 (Below.size hb2)));have hgg:w.heap.size+1<w2.heap.size:=Nat.lt_of_lt_of_le HSZ0.out (Below.size hb2);have HV:=Hj (And.intro (hx1.below hb2) (And.intro hxV (And.intro hww (And.intro hgg (And.intro hB7 (And.intro (hcq.below hxV) hbb))))));clear hz1 hz2 hz3 hz4 hz5 hz6 hb2 TZ hB7 hxV hs1 hcq hx1 hbb hww hgg H1 HSZ0
 go_wp2_with fail
 generalize w2.alloc (.cells #[.bool false,.slice F3 f3' g3,.bool false,.slice G3 i3 j3] 42)=V at *;generalize hge:w2.heap.size=g at *;have HGE:=Hj hge;clear hge;have HGV:=Hj HV.out.2.2.2.2.1.lt
 go_loopw [9] (fun t wr=>∃ (i:Nat) (A5:Option Addr) (k5 c5:Nat) (A6:Option Addr) (k6 c6:Nat),i≤n∧t=.int .i64 (i:Int)∧Hid (RCstR w g V (costAt l q i) A5 k5 c5 A6 k6 c6 wr)) (fun t _=>n-(intOf t).toNat)
 case atStart=>exact ⟨0,F3,f3',g3,G3,i3,j3,Nat.zero_le _,rfl,Hj ⟨Below.refl _ _,HV.out.2.2.2.2.1,HV.out.2.2.2.2.2.1⟩⟩
 case round =>
  obtain ⟨i,A5,k5,c5,A6,k6,c6,hi,rfl,HR0⟩:=hrel;obtain ⟨r1,r4,r5⟩:=HR0.out;have hwr:Below w.heap.size w wr:=HV.out.2.2.1.trans (r1.mono (by have:=HV.out.2.2.2.1;omega));by_cases hlt:i<n
  ·have hkw:Below w2.heap.size w2 wr:=Below.trans (show Below w2.heap.size w2 V from HV.out.2.1) (by rw [HGE.out];exact r1);obtain ⟨b,o,rfl,hbr,hc⟩:=(HX.out.below hwr).2.2 (by have:=HLN.out;omega);obtain ⟨-,y0⟩:=hc i hlt;obtain ⟨b2,o2,rfl,hbr2,hc2⟩:=(HV.out.1.below hkw).2 (by omega);obtain ⟨X1,x1,x2,X2,x3,x4,z0,z1,z2,z3,hqx⟩:=hc2 i hlt;have hkl:i<l.length:=by rw [HLN.out];exact hlt
   rw [partsA_get hlt] at z0 hqx;have hyl:Ls 7 (partAt l q i):=HPL.out i hkl;have hsl:Ls 60 (costAt l q i):=HCL.out i (by omega);have hst:costAt l q (i+1)=costAt l q i+partAt l q i*(((l[i]?.getD (0,0)).2:Int):Rat):=rfl;have hbad:=HOK.out _ (getD_mem (d:=((0,0):Int×Int)) hkl);generalize partAt l q i=yq at *;generalize costAt l q i=sm at *;generalize (l[i]?.getD (0,0)).2=sp at *;unfold Bad at hbad;have hl3:Ls 7 ((sp:Int):Rat):=(ls_int (Nat.le_refl 3) (by omega)).mono (by decide);have hml:Ls 60 (yq*((sp:Int):Rat)):=(hyl.mul hl3).mono (by decide);have TI:=Hj (fun W=>rint_any sp W (by omega) (by omega));have TM:=Hj (fun (W:World) (hW:Kp wr W) (R R':Option Addr) (k d k' d':Nat) (hh:RQ W ((sp:Int):Rat) R k d R' k' d')=>rmulq_s (s:=7) (by decide) (decide (yq.num<0)) false (decide (((sp:Int):Rat).num<0)) false X1 X2 R R' x1 x2 x3 x4 k d k' d' yq _ W ((RQ.below hqx hW).qs hyl (by decide)) (hh.qs hl3 (by decide)));generalize yq*((sp:Int):Rat)=mq at *;have TA:=Hj (fun (W:World) (hW:Kp wr W) (R R':Option Addr) (k d k' d':Nat) (hh:RQ W mq R k d R' k' d')=>raddq_s (s:=60) (by decide) (decide (sm.num<0)) false (decide (mq.num<0)) false A5 A6 R R' k5 c5 k6 c6 k d k' d' sm mq W ((RQ.below (show RQ wr sm A5 k5 c5 A6 k6 c6 from ⟨r5.1,r5.2.1,r5.2.2.1,r5.2.2.2.1⟩) hW).qs hsl (by decide)) (hh.qs hml (by decide)));rw [← hst] at TA;generalize hse:costAt l q (i+1)=sm' at *;have HSTEP:=Hj hse;have HRB:=Hj r1;have HBX:=Hj (And.intro r4 r5);have HSZ:=Hj hwr.size;have HGR:=Hj (show g≤wr.heap.size from Nat.le_trans (Nat.le_of_lt HGV.out) (Below.size r1));have hin:i≤3:=by have:=HN3.out;omega
   have i1:(0:Int)≤(i:Int):=by omega
   have i2:(i:Int)<(n:Int):=by omega
   clear HR0 r1 r4 r5 hwr hkw hc hc2 hqx hkl hyl hsl hst hbad hl3 hml hse
   go_wp2_with fail
   refine held_front (W:=wr) (C:=fun w'=>w'.cell? ⟨g,0,none⟩=some (.bool (decide (sm.num<0)))∧w'.cell? ⟨g,1,none⟩=some (.slice A5 k5 c5)∧w'.cell? ⟨g,2,none⟩=some (.bool false)∧w'.cell? ⟨g,3,none⟩=some (.slice A6 k6 c6)∧w'.cell? ⟨b2,o2+i*4,none⟩=some (.bool (decide (yq.num<0)))∧w'.cell? ⟨b2,o2+i*4+1,none⟩=some (.slice X1 x1 x2)∧w'.cell? ⟨b2,o2+i*4+2,none⟩=some (.bool false)∧w'.cell? ⟨b2,o2+i*4+3,none⟩=some (.slice X2 x3 x4)∧w'.cell? ⟨b,o+i*2+1,none⟩=some (.int .i64 sp)) 13 1 (fun w' hk=>⟨(Kp.blk hk HBX.out.1).cell 0,(Kp.blk hk HBX.out.1).cell 1,(Kp.blk hk HBX.out.1).cell 2,(Kp.blk hk HBX.out.1).cell 3,(Below.cell hk (p:=⟨b2,_,none⟩) hbr2).trans z0,(Below.cell hk (p:=⟨b2,_,none⟩) hbr2).trans z1,(Below.cell hk (p:=⟨b2,_,none⟩) hbr2).trans z2,(Below.cell hk (p:=⟨b2,_,none⟩) hbr2).trans z3,(Below.cell hk (p:=⟨b,_,none⟩) hbr).trans y0⟩) (Kp.refl wr) (fun HS hH0=>?_);refine tq 0 ?_;refine tq 1 ?_;refine tq 2 ?_;refine tq 3 ?_;refine tq 4 ?_;refine tq 5 ?_;refine tq 6 ?_;refine tq 7 ?_;refine tq 8 ?_;refine tq 9 ?_;refine rd1 10 fun K hK=>?_
   (try simp only [p1,p2,p3])
   go_simp;have hk:=And.right ‹_∧Kp wr _›;refine (TI.out _).mono ?_;rintro e v1 ⟨N1,n1,n2,N2,n3,n4,rfl,hk9,hj9,hW9,hX9,-,-,hbx⟩;have hp:=Kp.trans hk hbx;have r1q:RQ v1 ((sp:Int):Rat) N1 n1 n2 N2 n3 n4:=⟨hk9,hj9,hW9,hX9⟩;clear hk hbx hk9 hj9 hW9 hX9
   (try (go_wp2_with fail))
   refine hK.out _ _ (HS.out _ hp) fun hH1=>?_;clear hK K hH0
   (try simp only [Act.put,p1,p2,p3,p4,p5,p6])
   refine rd1 11 fun K hK=>?_
   (try simp only [p1,p2,p3])
   go_simp;have hk:=And.right ‹_∧Kp wr _›;refine (TM.out _ hk _ _ _ _ _ _ r1q).mono ?_;rintro e v2 ⟨M1,m1,m2,M2,m3,m4,rfl,hk9,hj9,hW9,hX9,-,-,hbx⟩;have hp:=Kp.trans hk hbx;have r2q:RQ v2 mq M1 m1 m2 M2 m3 m4:=⟨hk9,hj9,hW9,hX9⟩;clear hk hbx hk9 hj9 hW9 hX9 r1q
   (try (go_wp2_with fail))
   refine hK.out _ _ (HS.out _ hp) fun hH2=>?_;clear hK K hH1
   (try simp only [Act.put,p1,p2,p3,p4,p5,p6])
   refine rd1 12 fun K hK=>?_
   (try simp only [p1,p2,p3])
   go_simp;have hk:=And.right ‹_∧Kp wr _›;refine (TA.out _ hk _ _ _ _ _ _ r2q).mono ?_;rintro e v3 ⟨Q1,q1,q2,Q2,q3,q4,rfl,hk9,hj9,hW9,hX9,hF9,hG9,hbx⟩;have hp:=Kp.trans hk hbx;have r3q:CQ w.heap.size v3 sm' Q1 q1 q2 Q2 q3 q4:=⟨hk9,hj9,hW9,hX9,hF9.mono (Nat.le_trans HSZ.out (Below.size hk)),hG9.mono (Nat.le_trans HSZ.out (Below.size hk))⟩;clear hk hbx hk9 hj9 hW9 hX9 hF9 hG9 r2q
   (try (go_wp2_with fail))
   refine hK.out _ _ (HS.out _ hp) fun hH3=>?_;clear hK K hH2
   (try simp only [Act.put,p1,p2,p3,p4,p5,p6])
   refine wpAnyH_done (by kernel_rfl) ?_ _;clear hH3;unfold Qfr;dsimp only;have b15:=Kp.blk hp HBX.out.1;obtain ⟨_,_,_,_,f10,f11,f12,f13⟩:=b15.four;refine wpAny_ready (rs:=[13]) (by kernel_rfl) (by simp) ?_;refine AllReady.cons rfl (fun K hK=>?_) AllReady.nil
   (try simp only [p1,p2,p3])
   go_simp;refine hK _ _ ?_;clear hK K
   (try simp only [Act.put,p1,p2,p3,p4,p5,p6])
   refine wpAny_done (by kernel_rfl) ?_ _;have hfin:RCstR w g V sm' Q1 q1 q2 Q2 q3 q4 ((((v3.setCell ⟨g,0,none⟩ (.bool (decide (sm'.num<0)))).setCell ⟨g,1,none⟩ (.slice Q1 q1 q2)).setCell ⟨g,2,none⟩ (.bool false)).setCell ⟨g,3,none⟩ (.slice Q2 q3 q4)):=by
    show RCstR w g V sm' Q1 q1 q2 Q2 q3 q4 (qst v3 g 0 (decide (sm'.num<0)) false Q1 Q2 q1 q2 q3 q4);exact ⟨below_qst (HRB.out.trans (Below.mono hp HGR.out)) (Nat.le_refl _),b15.put4,r3q.put4 b15 NoInt.four⟩
   have HF:=Hj hfin;clear hfin hp r3q b15 f10 f11 f12 f13 HS TA TM TI HBX HRB;go_wp2;go_roundw
   case rel=>exact ⟨i+1,Q1,q1,q2,Q2,q3,q4,by omega,by first|rfl|go_num,by rw [HSTEP.out];exact HF.out⟩
   case measure=>simp [intOf];omega
  ·obtain rfl:i=n:=by omega
   have hb5:Blk wr (w.heap.size+1) 42 #[.bool false,.slice none 0 0,.bool false,.slice none 0 0]:=HV.out.2.2.2.2.2.2.below r1 HV.out.2.2.2.1;obtain ⟨a0,a1,a2,a3,-,-,-,-⟩:=r4.four;obtain ⟨_,_,_,_,f4,f5,f6,f7⟩:=hb5.four;generalize he1:costAt l q i=sm at *;have HE:=Hj he1;have hY:Blk ((((wr.setCell ⟨w.heap.size+1,0,none⟩ (.bool (decide (sm.num<0)))).setCell ⟨w.heap.size+1,1,none⟩ (.slice A5 k5 c5)).setCell ⟨w.heap.size+1,2,none⟩ (.bool false)).setCell ⟨w.heap.size+1,3,none⟩ (.slice A6 k6 c6)) (w.heap.size+1) 42 #[.bool (decide (sm.num<0)),.slice A5 k5 c5,.bool false,.slice A6 k6 c6]:=hb5.put4 (o:=0);have hF:CQ w.heap.size ((((wr.setCell ⟨w.heap.size+1,0,none⟩ (.bool (decide (sm.num<0)))).setCell ⟨w.heap.size+1,1,none⟩ (.slice A5 k5 c5)).setCell ⟨w.heap.size+1,2,none⟩ (.bool false)).setCell ⟨w.heap.size+1,3,none⟩ (.slice A6 k6 c6)) sm A5 k5 c5 A6 k6 c6:=r5.put4 (o:=0) hb5 NoInt.four;have hG:Below w.heap.size w ((((wr.setCell ⟨w.heap.size+1,0,none⟩ (.bool (decide (sm.num<0)))).setCell ⟨w.heap.size+1,1,none⟩ (.slice A5 k5 c5)).setCell ⟨w.heap.size+1,2,none⟩ (.bool false)).setCell ⟨w.heap.size+1,3,none⟩ (.slice A6 k6 c6)):=below_qst (o:=0) hwr (by omega);obtain ⟨d0,d1,d2,d3,-,-,-,-⟩:=hY.four;have HF:=Hj (And.intro hF hG);clear HR0 r1 r4 r5 hwr hb5 hY hF hG he1;go_wp2;refine bodyPost_ret (v:=.tuple #[.agg #[.bool (decide (sm.num<0)),.slice A5 k5 c5,.bool false,.slice A6 k6 c6],.int .i64 0]) ?_ rfl ?_
   ·simp [results,Tryz.results115,go_sem,d0,d1,d2,d3]
   ·rw [HE.out];exact ⟨A5,k5,c5,A6,k6,c6,rfl,HF.out.1,HF.out.2⟩
theorem rcost_of (A:Option Addr) (n c:Nat) (x:Int) (w:World) (an an':Bool) (aA aA':Option Addr) (ak ac ak' ac':Nat)
  (H:∀ W,Below w.heap.size w W→Calls Tryz.prog 155 #[.slice A n c,.agg #[.bool an,.slice aA ak ac,.bool an',.slice aA' ak' ac']] W fun e w'=>e=.returned (.tuple #[.slice none 0 0,.int .i64 x])∧Below W.heap.size W w') :
  Calls Tryz.prog 115 #[.slice A n c,.agg #[.bool an,.slice aA ak ac,.bool an',.slice aA' ak' ac']] w (RErrQ w x):=by
 have TL:=Hj H;have TZ:=Hj (fun W=>rint_any 0 W (by omega) (by omega));clear H;unfold RErrQ;go_enter Tryz.func115,Tryz.ntmps115;have hB1:=Blk.new1 w (.cells #[.bool an,.slice aA ak ac,.bool an',.slice aA' ak' ac'] 42) 42 #[.bool false,.slice none 0 0,.bool false,.slice none 0 0];have hBW:Below w.heap.size w ((w.alloc (.cells #[.bool an,.slice aA ak ac,.bool an',.slice aA' ak' ac'] 42)).alloc (.cells #[.bool false,.slice none 0 0,.bool false,.slice none 0 0] 42)):=((Below.refl _ _).alloc (Nat.le_refl _) _).alloc (by simp only [World.size_alloc];omega) _;have hszW:((w.alloc (.cells #[.bool an,.slice aA ak ac,.bool an',.slice aA' ak' ac'] 42)).alloc (.cells #[.bool false,.slice none 0 0,.bool false,.slice none 0 0] 42)).heap.size=w.heap.size+1+1:=by simp
 go_wp2_with fail
 generalize (w.alloc (.cells #[.bool an,.slice aA ak ac,.bool an',.slice aA' ak' ac'] 42)).alloc (.cells #[.bool false,.slice none 0 0,.bool false,.slice none 0 0] 42)=W at *;refine (TL.out W hBW).mono ?_;rintro e w1 ⟨rfl,hb1⟩;have H1:=Hj (And.intro hb1 (And.intro (hB1.below hb1 hB1.lt) (hBW.trans (hb1.mono hBW.size))));have HSZ0:=Hj (show w.heap.size+1<w1.heap.size by have:=Below.size hb1;omega);clear hb1 hB1 hBW hszW TL
 go_wp2_with fail
 refine (TZ.out _).mono ?_;rintro e w2 ⟨F3,f3',g3,G3,i3,j3,rfl,hz1,hz2,hz3,hz4,hz5,hz6,hb2⟩;have hB7:=Blk.new w2 42 #[.bool false,.slice F3 f3' g3,.bool false,.slice G3 i3 j3];have hxV:=(Kp.refl w2).alloc (.cells #[.bool false,.slice F3 f3' g3,.bool false,.slice G3 i3 j3] 42);have hs1:w.heap.size≤w1.heap.size:=by have:=HSZ0.out;omega
 have hbb:=Kp.blk hxV (Kp.blk hb2 H1.out.2.1);have hww:=(H1.out.2.2.trans (hb2.mono hs1)).trans (Below.mono hxV (Nat.le_trans hs1 (Below.size hb2)));obtain ⟨a0,a1,a2,a3,-,-,-,-⟩:=hB7.four;obtain ⟨_,_,_,_,f4,f5,f6,f7⟩:=hbb.four;have HV:=Hj (And.intro hbb hww);clear hz1 hz2 hz3 hz4 hz5 hz6 hb2 TZ hB7 hxV hs1 hbb hww H1 HSZ0
 go_wp2_with fail
 generalize w2.alloc (.cells #[.bool false,.slice F3 f3' g3,.bool false,.slice G3 i3 j3] 42)=V at *;generalize w2.heap.size=g at *
 go_loopw [9] (fun t wr=>t=.int .i64 0∧wr=V) (fun t _=>0)
 case atStart=>exact ⟨rfl,rfl⟩
 case round =>
  obtain ⟨rfl,rfl⟩:=hrel;have hY:Blk ((((wr.setCell ⟨w.heap.size+1,0,none⟩ (.bool false)).setCell ⟨w.heap.size+1,1,none⟩ (.slice F3 f3' g3)).setCell ⟨w.heap.size+1,2,none⟩ (.bool false)).setCell ⟨w.heap.size+1,3,none⟩ (.slice G3 i3 j3)) (w.heap.size+1) 42 #[.bool false,.slice F3 f3' g3,.bool false,.slice G3 i3 j3]:=HV.out.1.put4 (o:=0);have hG:Below w.heap.size w ((((wr.setCell ⟨w.heap.size+1,0,none⟩ (.bool false)).setCell ⟨w.heap.size+1,1,none⟩ (.slice F3 f3' g3)).setCell ⟨w.heap.size+1,2,none⟩ (.bool false)).setCell ⟨w.heap.size+1,3,none⟩ (.slice G3 i3 j3)):=below_qst (o:=0) HV.out.2 (by omega);obtain ⟨d0,d1,d2,d3,-,-,-,-⟩:=hY.four;have HF:=Hj hG;clear hY hG HV;go_wp2;refine bodyPost_ret (v:=.tuple #[.agg #[.bool false,.slice F3 f3' g3,.bool false,.slice G3 i3 j3],.int .i64 x]) ?_ rfl ?_
  ·simp [results,Tryz.results115,go_sem,d0,d1,d2,d3]
  ·exact ⟨F3,f3',g3,G3,i3,j3,rfl,HF.out⟩
theorem rwrong25_any (A B:Option Addr) (n c m d:Nat) (os bs:List (List (Int×Int))) (w:World) (h:CsAt w A n os) (h':CsAt w B m bs) :
  Calls Tryz.prog 98 #[.slice A n c,.slice B m d] w fun e w'=>e=.returned (.int .i64 (ckB os bs))∧Below w.heap.size w w':=by
 have HX:=Hj h;have HY:=Hj h';have HLN:=Hj h.1;have HMN:=Hj h'.1;by_cases h5:5<n
 ·have e:ckB os bs=5:=by unfold ckB;rw [if_pos (by rw [h.1];exact Or.inl h5)]
  have d5:decide ((5:Int)<(n:Int))=true:=by simp;omega
  rw [e];clear h h' e;go_enter Tryz.func98,Tryz.ntmps98;go_wp2;go_ret;exact ⟨rfl,Below.refl _ _⟩
 ·have d5:decide ((5:Int)<(n:Int))=false:=by simp;omega
  by_cases h6:6<m
  ·have e:ckB os bs=5:=by unfold ckB;rw [if_pos (by rw [h'.1];exact Or.inr h6)]
   have d6:decide ((6:Int)<(m:Int))=true:=by simp;omega
   rw [e];clear h h' e;go_enter Tryz.func98,Tryz.ntmps98;go_wp2;go_ret;exact ⟨rfl,Below.refl _ _⟩
  ·have d6:decide ((6:Int)<(m:Int))=false:=by simp;omega
   have HE0:Hid (ckB os bs=ckX os bs):=by
    show ckB os bs=ckX os bs;unfold ckB ckX;rw [if_neg (by rw [h.1,h'.1];omega)]
   clear h h';go_enter Tryz.func98,Tryz.ntmps98
   go_wp2_with fail
   go_loopw [5] (fun t wr=>∃ k:Nat,k≤n∧t=.int .i64 k∧Hid (Below w.heap.size w wr∧(ckF true 0 os).2=(ckF true k (os.drop k)).2)) (fun t _=>n-(intOf t).toNat)
   case atStart=>exact ⟨0,Nat.zero_le _,rfl,Below.refl _ _,by simp⟩
   case round =>
    obtain ⟨k,hk,rfl,hR⟩:=hrel;by_cases hlt:k<n
    ·obtain ⟨b,o,rfl,hb,hc⟩:=HX.out.2 (by omega);obtain ⟨A',n',c',hcell,hst⟩:=hc k hlt;have hcl:=(hR.out.1.cell (p:=⟨b,o+k,none⟩) hb).trans hcell;have hkl:k<os.length:=by rw [HLN.out];exact hlt
     have hmem:=getD_mem (d:=([]:List (Int×Int))) hkl;have hCK:=rcheck_up A' n' c' (os[k]?.getD []) wr (hst.below hR.out.1);have hsk:=ckF_skip (up:=true) hkl;have hht:=ckF_hit (up:=true) hkl;generalize chk true (os[k]?.getD [])=x at *;have k1:(0:Int)≤(k:Int):=by omega
     have k2:(k:Int)<(n:Int):=by omega
     have HCK:=Hj hCK;have HR:=Hj hR.out;have HSK:=Hj hsk;have HHT:=Hj hht;clear hc hcell hst hkl hmem hCK hR hsk hht
     go_wp2_with fail
     refine HCK.out.mono ?_;rintro e v1 ⟨rfl,hb1⟩;have HV1:=Hj (HR.out.1.trans (hb1.mono HR.out.1.size));clear hb1 HCK;by_cases hx:x=0
     ·have dx:(x != 0)=false:=by simpa using hx
      have HE:=Hj (HR.out.2.trans (HSK.out hx));clear HSK HHT HR hx;go_wp2;go_roundw
      case rel=>exact ⟨k+1,by omega,by go_num,HV1.out,HE.out⟩
      case measure=>simp [intOf];omega
     ·have dx:(x != 0)=true:=by simpa using hx
      have HE:=Hj (HR.out.2.trans (HHT.out hx));clear HSK HHT HR;go_wp2;go_ret;exact ⟨by rw [HE0.out];unfold ckX;rw [HE.out,if_pos hx];rfl,HV1.out⟩
    ·obtain rfl:k=n:=by omega
     have he:(ckF true 0 os).2=0:=by
      rw [hR.out.2,List.drop_eq_nil_of_le (by rw [HLN.out];exact Nat.le_refl _)]
      rfl
     have HZ:=Hj he;have HBA:=Hj hR.out.1;clear he hR
     go_wp2_with fail
     go_loopw [7] (fun t wr=>∃ k:Nat,k≤m∧t=.int .i64 k∧Hid (Below w.heap.size w wr∧(ckF false 0 bs).2=(ckF false k (bs.drop k)).2)) (fun t _=>m-(intOf t).toNat)
     case atStart=>exact ⟨0,Nat.zero_le _,rfl,HBA.out,by simp⟩
     case round =>
      obtain ⟨k,hk,rfl,hR⟩:=hrel;by_cases hlt:k<m
      ·obtain ⟨b,o,rfl,hb,hc⟩:=HY.out.2 (by omega);obtain ⟨A',n',c',hcell,hst⟩:=hc k hlt;have hcl:=(hR.out.1.cell (p:=⟨b,o+k,none⟩) hb).trans hcell;have hkl:k<bs.length:=by rw [HMN.out];exact hlt
       have hmem:=getD_mem (d:=([]:List (Int×Int))) hkl;have hCK:=rcheck_dn A' n' c' (bs[k]?.getD []) wr (hst.below hR.out.1);have hsk:=ckF_skip (up:=false) hkl;have hht:=ckF_hit (up:=false) hkl;generalize chk false (bs[k]?.getD [])=x at *;have k1:(0:Int)≤(k:Int):=by omega
       have k2:(k:Int)<(m:Int):=by omega
       have HCK:=Hj hCK;have HR:=Hj hR.out;have HSK:=Hj hsk;have HHT:=Hj hht;clear hc hcell hst hkl hmem hCK hR hsk hht
       go_wp2_with fail
       refine HCK.out.mono ?_;rintro e v1 ⟨rfl,hb1⟩;have HV1:=Hj (HR.out.1.trans (hb1.mono HR.out.1.size));clear hb1 HCK;by_cases hx:x=0
       ·have dx:(x != 0)=false:=by simpa using hx
        have HE:=Hj (HR.out.2.trans (HSK.out hx));clear HSK HHT HR hx;go_wp2;go_roundw
        case rel=>exact ⟨k+1,by omega,by go_num,HV1.out,HE.out⟩
        case measure=>simp [intOf];omega
       ·have dx:(x != 0)=true:=by simpa using hx
        have HE:=Hj (HR.out.2.trans (HHT.out hx));clear HSK HHT HR;go_wp2;go_ret;exact ⟨by rw [HE0.out];unfold ckX;rw [HZ.out,if_neg (by simp),HE.out];rfl,HV1.out⟩
      ·obtain rfl:k=m:=by omega
       have he:(ckF false 0 bs).2=0:=by
        rw [hR.out.2,List.drop_eq_nil_of_le (by rw [HMN.out];exact Nat.le_refl _)]
        rfl
       have HE:=Hj he;have HB9:=Hj hR.out.1;clear he hR;go_wp2;go_ret;exact ⟨by rw [HE0.out];unfold ckX;rw [HZ.out,if_neg (by simp),HE.out];rfl,HB9.out⟩
end Go.Proofs.YtjajigkacccdgaaGreat
