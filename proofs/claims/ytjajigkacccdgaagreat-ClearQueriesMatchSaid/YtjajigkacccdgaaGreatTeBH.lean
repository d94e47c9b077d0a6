/-
Lemmas of the walk; no further conditions.
-/
import Derived.Test.YtjajigkacccdgaaGreatTeBG
set_option linter.unusedVariables false
set_option linter.unusedSimpArgs false
set_option maxRecDepth 100000
set_option maxHeartbeats 16000000
namespace Go.Proofs.YtjajigkacccdgaaGreat
open Go.RowKit
open Wd
def RCstR (w:World) (g:Nat) (V:World) (sm:Rat) (A:Option Addr) (k c:Nat) (A':Option Addr) (k' c':Nat) (wr:World):Prop :=
 Below g V wr∧Blk wr g 42 #[.bool (decide (sm.num<0)),.slice A k c,.bool false,.slice A' k' c']∧CQ w.heap.size wr sm A k c A' k' c'
def RErrQ (w:World) (x:Int) (e:Ending) (w':World):Prop:=∃ A k c A' k' c',e=.returned (.tuple #[.agg #[.bool false,.slice A k c,.bool false,.slice A' k' c'],.int .i64 x])∧Below w.heap.size w w'
theorem rcost_ok (A:Option Addr) (n c:Nat) (l:List (Int×Int)) (w:World) (h:StAt w A n l) (he:curveE l=0) (an an':Bool) (aA aA':Option Addr) (ak ac ak' ac':Nat) (q:Rat) (hq:QS 7 w an aA ak ac an' aA' ak' ac' q) (h0:0≤q) (h1:q≤((qsum l:Int):Rat)) :
  Calls Tryz.prog 115 #[.slice A n c,.agg #[.bool an,.slice aA ak ac,.bool an',.slice aA' ak' ac']] w (CstPost w (costAt l q n)):=by
 obtain ⟨hn0,hn3,hok⟩:=curve_ok he;have hln:=h.1;have TL:=Hj (fun W (hW:Below w.heap.size w W)=>ralloc_ok A n c l W (h.below hW) he an an' aA aA' ak ac ak' ac' q (hq.below hW) h0 h1);have TZ:=Hj (fun W=>rint_any 0 W (by omega) (by omega));have h3:=wb_three;have h3s:=wb_mono (show 3≤7 by decide);have hpl:∀ k,k<l.length→Ls 7 (partAt l q k):=fun k hk=>partAt_bd h0 hok hq.ls.1 hq.ls.2 (by omega) (by omega) hk;have hcl:∀ k,k≤l.length→Ls 60 (costAt l q k):=fun k hk=>(costAt_ls hpl (bad_price hok) k hk).mono (by omega);have HPL:=Hj hpl;have HCL:=Hj hcl;have HX:=Hj h;have HOK:=Hj hok;have HLN:=Hj hln;have HN3:=Hj (show n≤3 by omega);clear h3 h3s hpl hcl hln hn3 hn0 h hq h0 h1 hok he;unfold CstPost;go_enter Tryz.func115,Tryz.ntmps115;have hB0:=(Blk.new w 42 #[.bool an,.slice aA ak ac,.bool an',.slice aA' ak' ac']).alloc (.cells #[.bool false,.slice none 0 0,.bool false,.slice none 0 0] 42);have hB1:=Blk.new1 w (.cells #[.bool an,.slice aA ak ac,.bool an',.slice aA' ak' ac'] 42) 42 #[.bool false,.slice none 0 0,.bool false,.slice none 0 0];have hBW:Below w.heap.size w ((w.alloc (.cells #[.bool an,.slice aA ak ac,.bool an',.slice aA' ak' ac'] 42)).alloc (.cells #[.bool false,.slice none 0 0,.bool false,.slice none 0 0] 42)):=((Below.refl _ _).alloc (Nat.le_refl _) _).alloc (by simp only [World.size_alloc];omega) _;have hszW:((w.alloc (.cells #[.bool an,.slice aA ak ac,.bool an',.slice aA' ak' ac'] 42)).alloc (.cells #[.bool false,.slice none 0 0,.bool false,.slice none 0 0] 42)).heap.size=w.heap.size+1+1:=by simp
 go_wp2_with fail
 generalize (w.alloc (.cells #[.bool an,.slice aA ak ac,.bool an',.slice aA' ak' ac'] 42)).alloc (.cells #[.bool false,.slice none 0 0,.bool false,.slice none 0 0] 42)=W at *;refine (TL.out W hBW).mono ?_;rintro e w1 ⟨Ah,ch,rfl,hx,hb1⟩;have H1:=Hj (And.intro hx (And.intro hb1 (And.intro (hB1.below hb1 hB1.lt) (hBW.trans (hb1.mono hBW.size)))));have HSZ0:=Hj (show w.heap.size+1<w1.heap.size by have:=Below.size hb1;omega);clear hx hb1 hB0 hB1 hBW hszW TL
 go_wp2_with fail
 refine (TZ.out _).mono ?_;rintro e w2 ⟨F3,f3',g3,G3,i3,j3,rfl,hz1,hz2,hz3,hz4,hz5,hz6,hb2⟩;have hB7:=Blk.new w2 42 #[.bool false,.slice F3 f3' g3,.bool false,.slice G3 i3 j3];have hxV:=(Kp.refl w2).alloc (.cells #[.bool false,.slice F3 f3' g3,.bool false,.slice G3 i3 j3] 42);have hs1:w.heap.size≤w1.heap.size:=by have:=HSZ0.out;omega
 have hcq:CQ w.heap.size w2 ((0:Int):Rat) F3 f3' g3 G3 i3 j3:=⟨hz1,hz2,hz3,hz4,hz5.mono hs1,hz6.mono hs1⟩;have hx1:=H1.out.1;have hbb:=Kp.blk hxV (Kp.blk hb2 H1.out.2.2.1);have hww:=(H1.out.2.2.2.trans (hb2.mono hs1)).trans (Below.mono hxV (Nat.le_trans hs1 (Below.size hb2)));have hgg:w.heap.size+1<w2.heap.size:=Nat.lt_of_lt_of_le HSZ0.out (Below.size hb2);have HV:=Hj (And.intro (hx1.below hb2) (And.intro hxV (And.intro hww (And.intro hgg (And.intro hB7 (And.intro (hcq.below hxV) hbb))))));clear hz1 hz2 hz3 hz4 hz5 hz6 hb2 TZ hB7 hxV hs1 hcq hx1 hbb hww hgg H1 HSZ0
 go_wp2_with fail
 generalize w2.alloc (.cells #[.bool false,.slice F3 f3' g3,.bool false,.slice G3 i3 j3] 42)=V at *;generalize hge:w2.heap.size=g at *;have HGE:=Hj hge;clear hge;have HGV:=Hj HV.out.2.2.2.2.1.lt
 go_loopw [9] (fun t wr=>∃ (i:Nat) (A5:Option Addr) (k5 c5:Nat) (A6:Option Addr) (k6 c6:Nat),i≤n∧t=.int .i64 (i:Int)∧Hid (RCstR w g V (costAt l q i) A5 k5 c5 A6 k6 c6 wr)) (fun t _=>n-(intOf t).toNat)
 case atStart=>exact ⟨0,F3,f3',g3,G3,i3,j3,Nat.zero_le _,rfl,Hj ⟨Below.refl _ _,HV.out.2.2.2.2.1,HV.out.2.2.2.2.2.1⟩⟩
 case round =>
  obtain ⟨i,A5,k5,c5,A6,k6,c6,hi,rfl,HR0⟩:=hrel;obtain ⟨r1,r4,r5⟩:=HR0.out;have hwr:Below w.heap.size w wr:=HV.out.2.2.1.trans (r1.mono (by have:=HV.out.2.2.2.1;omega));by_cases hlt:i<n
  ·have hkw:Below w2.heap.size w2 wr:=Below.trans (show Below w2.heap.size w2 V from HV.out.2.1) (by rw [HGE.out];exact r1);obtain ⟨b,o,rfl,hbr,hc⟩:=(HX.out.below hwr).2.2 (by have:=HLN.out;omega);obtain ⟨-,y0⟩:=hc i hlt;obtain ⟨b2,o2,rfl,hbr2,hc2⟩:=(HV.out.1.below hkw).2 (by omega);obtain ⟨X1,x1,x2,X2,x3,x4,z0,z1,z2,z3,hqx⟩:=hc2 i hlt;have hkl:i<l.length:=by rw [HLN.out];exact hlt
   rw [partsA_get hlt] at z0 hqx;have hyl:Ls 7 (partAt l q i):=HPL.out i hkl;have hsl:Ls 60 (costAt l q i):=HCL.out i (by omega);have hst:costAt l q (i+1)=costAt l q i+partAt l q i*(((l[i]?.getD (0,0)).2:Int):Rat):=rfl;have hbad:=HOK.out _ (getD_mem (d:=((0,0):Int×Int)) hkl);generalize partAt l q i=yq at *;generalize costAt l q i=sm at *;generalize (l[i]?.getD (0,0)).2=sp at *;unfold Bad at hbad;have hl3:Ls 7 ((sp:Int):Rat):=(ls_int (Nat.le_refl 3) (by omega)).mono (by decide);have hml:Ls 60 (yq*((sp:Int):Rat)):=(hyl.mul hl3).mono (by decide);have TI:=Hj (fun W=>rint_any sp W (by omega) (by omega));have TM:=Hj (fun (W:World) (hW:Kp wr W) (R R':Option Addr) (k d k' d':Nat) (hh:RQ W ((sp:Int):Rat) R k d R' k' d')=>rmulq_s (s:=7) (by decide) (decide (yq.num<0)) false (decide (((sp:Int):Rat).num<0)) false X1 X2 R R' x1 x2 x3 x4 k d k' d' yq _ W ((RQ.below hqx hW).qs hyl (by decide)) (hh.qs hl3 (by decide)));generalize yq*((sp:Int):Rat)=mq at *;have TA:=Hj (fun (W:World) (hW:Kp wr W) (R R':Option Addr) (k d k' d':Nat) (hh:RQ W mq R k d R' k' d')=>raddq_s (s:=60) (by decide) (decide (sm.num<0)) false (decide (mq.num<0)) false A5 A6 R R' k5 c5 k6 c6 k d k' d' sm mq W ((RQ.below (show RQ wr sm A5 k5 c5 A6 k6 c6 from ⟨r5.1,r5.2.1,r5.2.2.1,r5.2.2.2.1⟩) hW).qs hsl (by decide)) (hh.qs hml (by decide)));rw [← hst] at TA;generalize hse:costAt l q (i+1)=sm' at *;have HSTEP:=Hj hse;have HRB:=Hj r1;have HBX:=Hj (And.intro r4 r5);have HSZ:=Hj hwr.size;have HGR:=Hj (show g≤wr.heap.size from Nat.le_trans (Nat.le_of_lt HGV.out) (Below.size r1));have hin:i≤3:=by have:=HN3.out;omega
   have i1:(0:Int)≤(i:Int):=by omega
   have i2:(i:Int)<(n:Int):=by omega
   clear HR0 r1 r4 r5 hwr hkw hc hc2 hqx hkl hyl hsl hst hbad hl3 hml hse
   go_wp2_with fail
   refine held_front (W:=wr) (C:=fun w'=>w'.cell? ⟨g,0,none⟩=some (.bool (decide (sm.num<0)))∧w'.cell? ⟨g,1,none⟩=some (.slice A5 k5 c5)∧w'.cell? ⟨g,2,none⟩=some (.bool false)∧w'.cell? ⟨g,3,none⟩=some (.slice A6 k6 c6)∧w'.cell? ⟨b2,o2+i*4,none⟩=some (.bool (decide (yq.num<0)))∧w'.cell? ⟨b2,o2+i*4+1,none⟩=some (.slice X1 x1 x2)∧w'.cell? ⟨b2,o2+i*4+2,none⟩=some (.bool false)∧w'.cell? ⟨b2,o2+i*4+3,none⟩=some (.slice X2 x3 x4)∧w'.cell? ⟨b,o+i*2+1,none⟩=some (.int .i64 sp)) 13 1 (fun w' hk=>⟨(Kp.blk hk HBX.out.1).cell 0,(Kp.blk hk HBX.out.1).cell 1,(Kp.blk hk HBX.out.1).cell 2,(Kp.blk hk HBX.out.1).cell 3,(Below.cell hk (p:=⟨b2,_,none⟩) hbr2).trans z0,(Below.cell hk (p:=⟨b2,_,none⟩) hbr2).trans z1,(Below.cell hk (p:=⟨b2,_,none⟩) hbr2).trans z2,(Below.cell hk (p:=⟨b2,_,none⟩) hbr2).trans z3,(Below.cell hk (p:=⟨b,_,none⟩) hbr).trans y0⟩) (Kp.refl wr) (fun HS hH0=>?_);refine tq 0 ?_;refine tq 1 ?_;refine tq 2 ?_;refine tq 3 ?_;refine tq 4 ?_;refine tq 5 ?_;refine tq 6 ?_;refine tq 7 ?_;refine tq 8 ?_;refine tq 9 ?_;refine rd1 10 fun K hK=>?_
   (try simp only [p1,p2,p3])
   go_simp;have hk:=And.right ‹_∧Kp wr _›;refine (TI.out _).mono ?_;rintro e v1 ⟨N1,n1,n2,N2,n3,n4,rfl,hk9,hj9,hW9,hX9,-,-,hbx⟩;have hp:=Kp.trans hk hbx;have r1q:RQ v1 ((sp:Int):Rat) N1 n1 n2 N2 n3 n4:=⟨hk9,hj9,hW9,hX9⟩;clear hk hbx hk9 hj9 hW9 hX9
   (try (go_wp2_with fail))
   refine hK.out _ _ (HS.out _ hp) fun hH1=>?_;clear hK K hH0
   (try simp only [Act.put,p1,p2,p3,p4,p5,p6])
   refine rd1 11 fun K hK=>?_
   (try simp only [p1,p2,p3])
   go_simp;have hk:=And.right ‹_∧Kp wr _›;refine (TM.out _ hk _ _ _ _ _ _ r1q).mono ?_;rintro e v2 ⟨M1,m1,m2,M2,m3,m4,rfl,hk9,hj9,hW9,hX9,-,-,hbx⟩;have hp:=Kp.trans hk hbx;have r2q:RQ v2 mq M1 m1 m2 M2 m3 m4:=⟨hk9,hj9,hW9,hX9⟩;clear hk hbx hk9 hj9 hW9 hX9 r1q
   (try (go_wp2_with fail))
   refine hK.out _ _ (HS.out _ hp) fun hH2=>?_;clear hK K hH1
   (try simp only [Act.put,p1,p2,p3,p4,p5,p6])
   refine rd1 12 fun K hK=>?_
   (try simp only [p1,p2,p3])
   go_simp;have hk:=And.right ‹_∧Kp wr _›;refine (TA.out _ hk _ _ _ _ _ _ r2q).mono ?_;rintro e v3 ⟨Q1,q1,q2,Q2,q3,q4,rfl,hk9,hj9,hW9,hX9,hF9,hG9,hbx⟩;have hp:=Kp.trans hk hbx;have r3q:CQ w.heap.size v3 sm' Q1 q1 q2 Q2 q3 q4:=⟨hk9,hj9,hW9,hX9,hF9.mono (Nat.le_trans HSZ.out (Below.size hk)),hG9.mono (Nat.le_trans HSZ.out (Below.size hk))⟩;clear hk hbx hk9 hj9 hW9 hX9 hF9 hG9 r2q
   (try (go_wp2_with fail))
   refine hK.out _ _ (HS.out _ hp) fun hH3=>?_;clear hK K hH2
   (try simp only [Act.put,p1,p2,p3,p4,p5,p6])
   refine wpAnyH_done (by kernel_rfl) ?_ _;clear hH3;unfold Qfr;dsimp only;have b15:=Kp.blk hp HBX.out.1;obtain ⟨_,_,_,_,f10,f11,f12,f13⟩:=b15.four;refine wpAny_ready (rs:=[13]) (by kernel_rfl) (by simp) ?_;refine AllReady.cons rfl (fun K hK=>?_) AllReady.nil
   (try simp only [p1,p2,p3])
   go_simp;refine hK _ _ ?_;clear hK K
   (try simp only [Act.put,p1,p2,p3,p4,p5,p6])
   refine wpAny_done (by kernel_rfl) ?_ _;have hfin:RCstR w g V sm' Q1 q1 q2 Q2 q3 q4 ((((v3.setCell ⟨g,0,none⟩ (.bool (decide (sm'.num<0)))).setCell ⟨g,1,none⟩ (.slice Q1 q1 q2)).setCell ⟨g,2,none⟩ (.bool false)).setCell ⟨g,3,none⟩ (.slice Q2 q3 q4)):=by
    show RCstR w g V sm' Q1 q1 q2 Q2 q3 q4 (qst v3 g 0 (decide (sm'.num<0)) false Q1 Q2 q1 q2 q3 q4);exact ⟨below_qst (HRB.out.trans (Below.mono hp HGR.out)) (Nat.le_refl _),b15.put4,r3q.put4 b15 NoInt.four⟩
   have HF:=Hj hfin;clear hfin hp r3q b15 f10 f11 f12 f13 HS TA TM TI HBX HRB;go_wp2;go_roundw
   case rel=>exact ⟨i+1,Q1,q1,q2,Q2,q3,q4,by omega,by first|rfl|go_num,by rw [HSTEP.out];exact HF.out⟩
   case measure=>simp [intOf];omega
  ·obtain rfl:i=n:=by omega
   have hb5:Blk wr (w.heap.size+1) 42 #[.bool false,.slice none 0 0,.bool false,.slice none 0 0]:=HV.out.2.2.2.2.2.2.below r1 HV.out.2.2.2.1;obtain ⟨a0,a1,a2,a3,-,-,-,-⟩:=r4.four;obtain ⟨_,_,_,_,f4,f5,f6,f7⟩:=hb5.four;generalize he1:costAt l q i=sm at *;have HE:=Hj he1;have hY:Blk ((((wr.setCell ⟨w.heap.size+1,0,none⟩ (.bool (decide (sm.num<0)))).setCell ⟨w.heap.size+1,1,none⟩ (.slice A5 k5 c5)).setCell ⟨w.heap.size+1,2,none⟩ (.bool false)).setCell ⟨w.heap.size+1,3,none⟩ (.slice A6 k6 c6)) (w.heap.size+1) 42 #[.bool (decide (sm.num<0)),.slice A5 k5 c5,.bool false,.slice A6 k6 c6]:=hb5.put4 (o:=0);have hF:CQ w.heap.size ((((wr.setCell ⟨w.heap.size+1,0,none⟩ (.bool (decide (sm.num<0)))).setCell ⟨w.heap.size+1,1,none⟩ (.slice A5 k5 c5)).setCell ⟨w.heap.size+1,2,none⟩ (.bool false)).setCell ⟨w.heap.size+1,3,none⟩ (.slice A6 k6 c6)) sm A5 k5 c5 A6 k6 c6:=r5.put4 (o:=0) hb5 NoInt.four;have hG:Below w.heap.size w ((((wr.setCell ⟨w.heap.size+1,0,none⟩ (.bool (decide (sm.num<0)))).setCell ⟨w.heap.size+1,1,none⟩ (.slice A5 k5 c5)).setCell ⟨w.heap.size+1,2,none⟩ (.bool false)).setCell ⟨w.heap.size+1,3,none⟩ (.slice A6 k6 c6)):=below_qst (o:=0) hwr (by omega);obtain ⟨d0,d1,d2,d3,-,-,-,-⟩:=hY.four;have HF:=Hj (And.intro hF hG);clear HR0 r1 r4 r5 hwr hb5 hY hF hG he1;go_wp2;refine bodyPost_ret (v:=.tuple #[.agg #[.bool (decide (sm.num<0)),.slice A5 k5 c5,.bool false,.slice A6 k6 c6],.int .i64 0]) ?_ rfl ?_
   ·simp [results,Tryz.results115,go_sem,d0,d1,d2,d3]
   ·rw [HE.out];exact ⟨A5,k5,c5,A6,k6,c6,rfl,HF.out.1,HF.out.2⟩
theorem rcost_of (A:Option Addr) (n c:Nat) (x:Int) (w:World) (an an':Bool) (aA aA':Option Addr) (ak ac ak' ac':Nat)
  (H:∀ W,Below w.heap.size w W→Calls Tryz.prog 155 #[.slice A n c,.agg #[.bool an,.slice aA ak ac,.bool an',.slice aA' ak' ac']] W fun e w'=>e=.returned (.tuple #[.slice none 0 0,.int .i64 x])∧Below W.heap.size W w') :
  Calls Tryz.prog 115 #[.slice A n c,.agg #[.bool an,.slice aA ak ac,.bool an',.slice aA' ak' ac']] w (RErrQ w x):=by
 have TL:=Hj H;have TZ:=Hj (fun W=>rint_any 0 W (by omega) (by omega));clear H;unfold RErrQ;go_enter Tryz.func115,Tryz.ntmps115;have hB1:=Blk.new1 w (.cells #[.bool an,.slice aA ak ac,.bool an',.slice aA' ak' ac'] 42) 42 #[.bool false,.slice none 0 0,.bool false,.slice none 0 0];have hBW:Below w.heap.size w ((w.alloc (.cells #[.bool an,.slice aA ak ac,.bool an',.slice aA' ak' ac'] 42)).alloc (.cells #[.bool false,.slice none 0 0,.bool false,.slice none 0 0] 42)):=((Below.refl _ _).alloc (Nat.le_refl _) _).alloc (by simp only [World.size_alloc];omega) _;have hszW:((w.alloc (.cells #[.bool an,.slice aA ak ac,.bool an',.slice aA' ak' ac'] 42)).alloc (.cells #[.bool false,.slice none 0 0,.bool false,.slice none 0 0] 42)).heap.size=w.heap.size+1+1:=by simp
 go_wp2_with fail
 generalize (w.alloc (.cells #[.bool an,.slice aA ak ac,.bool an',.slice aA' ak' ac'] 42)).alloc (.cells #[.bool false,.slice none 0 0,.bool false,.slice none 0 0] 42)=W at *;refine (TL.out W hBW).mono ?_;rintro e w1 ⟨rfl,hb1⟩;have H1:=Hj (And.intro hb1 (And.intro (hB1.below hb1 hB1.lt) (hBW.trans (hb1.mono hBW.size))));have HSZ0:=Hj (show w.heap.size+1<w1.heap.size by have:=Below.size hb1;omega);clear hb1 hB1 hBW hszW TL
 go_wp2_with fail
 refine (TZ.out _).mono ?_;rintro e w2 ⟨F3,f3',g3,G3,i3,j3,rfl,hz1,hz2,hz3,hz4,hz5,hz6,hb2⟩;have hB7:=Blk.new w2 42 #[.bool false,.slice F3 f3' g3,.bool false,.slice G3 i3 j3];have hxV:=(Kp.refl w2).alloc (.cells #[.bool false,.slice F3 f3' g3,.bool false,.slice G3 i3 j3] 42);have hs1:w.heap.size≤w1.heap.size:=by have:=HSZ0.out;omega
 have hbb:=Kp.blk hxV (Kp.blk hb2 H1.out.2.1);have hww:=(H1.out.2.2.trans (hb2.mono hs1)).trans (Below.mono hxV (Nat.le_trans hs1 (Below.size hb2)));obtain ⟨a0,a1,a2,a3,-,-,-,-⟩:=hB7.four;obtain ⟨_,_,_,_,f4,f5,f6,f7⟩:=hbb.four;have HV:=Hj (And.intro hbb hww);clear hz1 hz2 hz3 hz4 hz5 hz6 hb2 TZ hB7 hxV hs1 hbb hww H1 HSZ0
 go_wp2_with fail
 generalize w2.alloc (.cells #[.bool false,.slice F3 f3' g3,.bool false,.slice G3 i3 j3] 42)=V at *;generalize w2.heap.size=g at *
 go_loopw [9] (fun t wr=>t=.int .i64 0∧wr=V) (fun t _=>0)
 case atStart=>exact ⟨rfl,rfl⟩
 case round =>
  obtain ⟨rfl,rfl⟩:=hrel;have hY:Blk ((((wr.setCell ⟨w.heap.size+1,0,none⟩ (.bool false)).setCell ⟨w.heap.size+1,1,none⟩ (.slice F3 f3' g3)).setCell ⟨w.heap.size+1,2,none⟩ (.bool false)).setCell ⟨w.heap.size+1,3,none⟩ (.slice G3 i3 j3)) (w.heap.size+1) 42 #[.bool false,.slice F3 f3' g3,.bool false,.slice G3 i3 j3]:=HV.out.1.put4 (o:=0);have hG:Below w.heap.size w ((((wr.setCell ⟨w.heap.size+1,0,none⟩ (.bool false)).setCell ⟨w.heap.size+1,1,none⟩ (.slice F3 f3' g3)).setCell ⟨w.heap.size+1,2,none⟩ (.bool false)).setCell ⟨w.heap.size+1,3,none⟩ (.slice G3 i3 j3)):=below_qst (o:=0) HV.out.2 (by omega);obtain ⟨d0,d1,d2,d3,-,-,-,-⟩:=hY.four;have HF:=Hj hG;clear hY hG HV;go_wp2;refine bodyPost_ret (v:=.tuple #[.agg #[.bool false,.slice F3 f3' g3,.bool false,.slice G3 i3 j3],.int .i64 x]) ?_ rfl ?_
  ·simp [results,Tryz.results115,go_sem,d0,d1,d2,d3]
  ·exact ⟨F3,f3',g3,G3,i3,j3,rfl,HF.out⟩
def RWelP (w:World) (os bs:List (List (Int×Int))) (gs ts:List Rat) (e:Ending) (w':World):Prop :=
 (wfE os bs gs ts=0∧CstPost w (wfV os bs gs ts) e w')∨(wfE os bs gs ts≠0∧ErrQ w (wfE os bs gs ts) e w')
theorem rwel_err {w w':World} {os bs:List (List (Int×Int))} {gs ts:List Rat} {x:Int} (hx:wfE os bs gs ts=x) (h0:x≠0) (hb:Below w.heap.size w w'):RWelP w os bs gs ts (.returned (.tuple #[.agg #[.bool false,.slice none 0 0,.bool false,.slice none 0 0],.int .i64 x])) w' :=
 Or.inr ⟨by rw [hx];exact h0,by rw [hx];exact ⟨rfl,hb⟩⟩
section
variable {os bs:List (List (Int×Int))} {gs ts:List Rat}
theorem wfE_1 (h:ckB os bs≠0):wfE os bs gs ts=ckB os bs:=by
 unfold wfE;rw [if_pos h]
theorem wfE_2 (h:ckB os bs=0) (h2:gs.length≠os.length∨ts.length≠bs.length):wfE os bs gs ts=3:=by
 unfold wfE;rw [if_neg (by simpa using h),if_pos h2]
theorem wfE_3 (h:ckB os bs=0) (h1:gs.length=os.length) (h2:ts.length=bs.length) (h3:¬ goodA os gs∨¬ goodA bs ts):wfE os bs gs ts=1:=by
 unfold wfE;rw [if_neg (by simpa using h),if_neg (by simp [h1,h2]),if_pos h3]
theorem wfE_4 (h:ckB os bs=0) (h1:gs.length=os.length) (h2:ts.length=bs.length) (h3:goodA os gs) (h4:goodA bs ts) (h5:qtyA gs os.length≠qtyA ts bs.length):wfE os bs gs ts=10:=by
 unfold wfE;rw [if_neg (by simpa using h),if_neg (by simp [h1,h2]),if_neg (by simp [h3,h4]),if_pos h5]
theorem wfE_5 (h:ckB os bs=0) (h1:gs.length=os.length) (h2:ts.length=bs.length) (h3:goodA os gs) (h4:goodA bs ts) (h5:qtyA gs os.length=qtyA ts bs.length):wfE os bs gs ts=0:=by
 unfold wfE;rw [if_neg (by simpa using h),if_neg (by simp [h1,h2]),if_neg (by simp [h3,h4]),if_neg (by simpa using h5)]
end
def wor1 (os:List (List (Int×Int))) (gs:List Rat) (i:Nat):Rat:=-(moneyA os gs i)
def wor2 (os bs:List (List (Int×Int))) (gs ts:List Rat) (n i:Nat):Rat:=moneyA bs ts i-moneyA os gs n
def lef2 (gs ts:List Rat) (n i:Nat):Rat:=qtyA gs n-qtyA ts i
theorem moneyA_succ (ls:List (List (Int×Int))) (gs:List Rat) (i:Nat):moneyA ls gs (i+1)=moneyA ls gs i+costAt (ls[i]?.getD []) (gs[i]?.getD 0) (ls[i]?.getD []).length:=rfl
theorem qtyA_succ (gs:List Rat) (i:Nat):qtyA gs (i+1)=qtyA gs i+gs[i]?.getD 0:=rfl
theorem wor1_succ (ls:List (List (Int×Int))) (gs:List Rat) (i:Nat):wor1 ls gs (i+1)=wor1 ls gs i-costAt (ls[i]?.getD []) (gs[i]?.getD 0) (ls[i]?.getD []).length:=by
 unfold wor1;rw [moneyA_succ];grind
theorem wor2_succ (os bs:List (List (Int×Int))) (gs ts:List Rat) (n i:Nat):wor2 os bs gs ts n (i+1)=wor2 os bs gs ts n i+costAt (bs[i]?.getD []) (ts[i]?.getD 0) (bs[i]?.getD []).length:=by
 unfold wor2;rw [moneyA_succ];grind
theorem lef2_succ (gs ts:List Rat) (n i:Nat):lef2 gs ts n (i+1)=lef2 gs ts n i-ts[i]?.getD 0:=by
 unfold lef2;rw [qtyA_succ];grind
theorem rwelfare_e1 (A B G H:Option Addr) (n c k d gn gc hn hc:Nat) (os bs:List (List (Int×Int))) (gs ts:List Rat) (w:World) (h:CsAt w A n os) (h':CsAt w B k bs) (hg:QsS 7 w G gn gs) (ht:QsS 7 w H hn ts) (hc0:ckB os bs≠0):Calls Tryz.prog 59 #[.slice A n c,.slice B k d,.slice G gn gc,.slice H hn hc] w (RWelP w os bs gs ts):=by
 have T0:=Hj (fun W (hW:Below w.heap.size w W)=>rwrong25_any A B n c k d os bs W (h.below hW) (h'.below hW));have HE:=Hj (wfE_1 (gs:=gs) (ts:=ts) hc0);have dx:(ckB os bs == 0)=false:=by simpa using hc0
 have dy:(ckB os bs != 0)=true:=by simpa using hc0
 have HX:=Hj hc0;clear h h' hg ht hc0;generalize hxe:ckB os bs=x at *;clear hxe;go_enter Tryz.func59,Tryz.ntmps59
 go_wp2_with fail
 have bx8:=Blk.new w 42 #[.bool false,.slice none 0 0,.bool false,.slice none 0 0];have hb0:Below w.heap.size w (w.alloc (.cells #[.bool false,.slice none 0 0,.bool false,.slice none 0 0] 42)):=(Below.refl _ _).alloc (Nat.le_refl _) _;generalize w.alloc (.cells #[.bool false,.slice none 0 0,.bool false,.slice none 0 0] 42)=W0 at *;refine (T0.out W0 hb0).mono ?_;rintro e w1 ⟨rfl,hb1⟩;have HB1:=Hj (hb0.trans (hb1.mono hb0.size));have HX8:=Hj (bx8.below hb1 bx8.lt);clear bx8 hb0 hb1 T0;have hbX:=HX8.out;have hbB:=HB1.out;have hY:Blk ((((w1.setCell ⟨w.heap.size,0,none⟩ (.bool false)).setCell ⟨w.heap.size,1,none⟩ (.slice none 0 0)).setCell ⟨w.heap.size,2,none⟩ (.bool false)).setCell ⟨w.heap.size,3,none⟩ (.slice none 0 0)) w.heap.size 42 #[.bool false,.slice none 0 0,.bool false,.slice none 0 0]:=hbX.put4 (o:=0);have hG:Below w.heap.size w ((((w1.setCell ⟨w.heap.size,0,none⟩ (.bool false)).setCell ⟨w.heap.size,1,none⟩ (.slice none 0 0)).setCell ⟨w.heap.size,2,none⟩ (.bool false)).setCell ⟨w.heap.size,3,none⟩ (.slice none 0 0)):=below_qst (o:=0) (a:=false) (b:=false) (A:=none) (A':=none) (k:=0) (c:=0) (k':=0) (c':=0) hbB (Nat.le_refl _);obtain ⟨i4,i5,i6,i7,f4,f5,f6,f7⟩:=hbX.four;obtain ⟨d0,d1,d2,d3,-,-,-,-⟩:=hY.four;have HF:=Hj hG;clear hY hG hbX hbB HX8 HB1;go_wp2;refine bodyPost_ret (v:=.tuple #[.agg #[.bool false,.slice none 0 0,.bool false,.slice none 0 0],.int .i64 x]) ?_ rfl ?_
 ·simp [results,Tryz.results59,go_sem,d0,d1,d2,d3]
 ·exact rwel_err HE.out HX.out HF.out
theorem rwelfare_e2 (A B G H:Option Addr) (n c k d gn gc hn hc:Nat) (os bs:List (List (Int×Int))) (gs ts:List Rat) (w:World) (h:CsAt w A n os) (h':CsAt w B k bs) (hg:QsS 7 w G gn gs) (ht:QsS 7 w H hn ts) (hc0:ckB os bs=0) (hl:gn≠n∨hn≠k):Calls Tryz.prog 59 #[.slice A n c,.slice B k d,.slice G gn gc,.slice H hn hc] w (RWelP w os bs gs ts):=by
 have T0:=Hj (fun W (hW:Below w.heap.size w W)=>rwrong25_any A B n c k d os bs W (h.below hW) (h'.below hW));rw [hc0] at T0;have HE:=Hj (wfE_2 (gs:=gs) (ts:=ts) hc0 (by rw [hg.1,ht.1,h.1,h'.1];exact hl));clear h h' hg ht hc0;by_cases h1:gn=n
 ·have b1:((gn:Int) != (n:Int))=false:=by simp [h1]
  have b2:((hn:Int) != (k:Int))=true:=by
   have:¬ ((hn:Int)=(k:Int)):=by omega
   simpa using this
  clear hl h1;go_enter Tryz.func59,Tryz.ntmps59
  go_wp2_with fail
  have bx8:=Blk.new w 42 #[.bool false,.slice none 0 0,.bool false,.slice none 0 0];have hb0:Below w.heap.size w (w.alloc (.cells #[.bool false,.slice none 0 0,.bool false,.slice none 0 0] 42)):=(Below.refl _ _).alloc (Nat.le_refl _) _;generalize w.alloc (.cells #[.bool false,.slice none 0 0,.bool false,.slice none 0 0] 42)=W0 at *;refine (T0.out W0 hb0).mono ?_;rintro e w1 ⟨rfl,hb1⟩;have HB1:=Hj (hb0.trans (hb1.mono hb0.size));have HX8:=Hj (bx8.below hb1 bx8.lt);clear bx8 hb0 hb1 T0;have hbX:=HX8.out;have hbB:=HB1.out;have hY:Blk ((((w1.setCell ⟨w.heap.size,0,none⟩ (.bool false)).setCell ⟨w.heap.size,1,none⟩ (.slice none 0 0)).setCell ⟨w.heap.size,2,none⟩ (.bool false)).setCell ⟨w.heap.size,3,none⟩ (.slice none 0 0)) w.heap.size 42 #[.bool false,.slice none 0 0,.bool false,.slice none 0 0]:=hbX.put4 (o:=0);have hG:Below w.heap.size w ((((w1.setCell ⟨w.heap.size,0,none⟩ (.bool false)).setCell ⟨w.heap.size,1,none⟩ (.slice none 0 0)).setCell ⟨w.heap.size,2,none⟩ (.bool false)).setCell ⟨w.heap.size,3,none⟩ (.slice none 0 0)):=below_qst (o:=0) (a:=false) (b:=false) (A:=none) (A':=none) (k:=0) (c:=0) (k':=0) (c':=0) hbB (Nat.le_refl _);obtain ⟨i4,i5,i6,i7,f4,f5,f6,f7⟩:=hbX.four;obtain ⟨d0,d1,d2,d3,-,-,-,-⟩:=hY.four;have HF:=Hj hG;clear hY hG hbX hbB HX8 HB1;go_wp2;refine bodyPost_ret (v:=.tuple #[.agg #[.bool false,.slice none 0 0,.bool false,.slice none 0 0],.int .i64 3]) ?_ rfl ?_
  ·simp [results,Tryz.results59,go_sem,d0,d1,d2,d3]
  ·exact rwel_err HE.out (by decide) HF.out
 ·have b1:((gn:Int) != (n:Int))=true:=by
   have:¬ ((gn:Int)=(n:Int)):=by omega
   simpa using this
  clear hl h1;go_enter Tryz.func59,Tryz.ntmps59
  go_wp2_with fail
  have bx8:=Blk.new w 42 #[.bool false,.slice none 0 0,.bool false,.slice none 0 0];have hb0:Below w.heap.size w (w.alloc (.cells #[.bool false,.slice none 0 0,.bool false,.slice none 0 0] 42)):=(Below.refl _ _).alloc (Nat.le_refl _) _;generalize w.alloc (.cells #[.bool false,.slice none 0 0,.bool false,.slice none 0 0] 42)=W0 at *;refine (T0.out W0 hb0).mono ?_;rintro e w1 ⟨rfl,hb1⟩;have HB1:=Hj (hb0.trans (hb1.mono hb0.size));have HX8:=Hj (bx8.below hb1 bx8.lt);clear bx8 hb0 hb1 T0;have hbX:=HX8.out;have hbB:=HB1.out;have hY:Blk ((((w1.setCell ⟨w.heap.size,0,none⟩ (.bool false)).setCell ⟨w.heap.size,1,none⟩ (.slice none 0 0)).setCell ⟨w.heap.size,2,none⟩ (.bool false)).setCell ⟨w.heap.size,3,none⟩ (.slice none 0 0)) w.heap.size 42 #[.bool false,.slice none 0 0,.bool false,.slice none 0 0]:=hbX.put4 (o:=0);have hG:Below w.heap.size w ((((w1.setCell ⟨w.heap.size,0,none⟩ (.bool false)).setCell ⟨w.heap.size,1,none⟩ (.slice none 0 0)).setCell ⟨w.heap.size,2,none⟩ (.bool false)).setCell ⟨w.heap.size,3,none⟩ (.slice none 0 0)):=below_qst (o:=0) (a:=false) (b:=false) (A:=none) (A':=none) (k:=0) (c:=0) (k':=0) (c':=0) hbB (Nat.le_refl _);obtain ⟨i4,i5,i6,i7,f4,f5,f6,f7⟩:=hbX.four;obtain ⟨d0,d1,d2,d3,-,-,-,-⟩:=hY.four;have HF:=Hj hG;clear hY hG hbX hbB HX8 HB1;go_wp2;refine bodyPost_ret (v:=.tuple #[.agg #[.bool false,.slice none 0 0,.bool false,.slice none 0 0],.int .i64 3]) ?_ rfl ?_
  ·simp [results,Tryz.results59,go_sem,d0,d1,d2,d3]
  ·exact rwel_err HE.out (by decide) HF.out
end Go.Proofs.YtjajigkacccdgaaGreat
