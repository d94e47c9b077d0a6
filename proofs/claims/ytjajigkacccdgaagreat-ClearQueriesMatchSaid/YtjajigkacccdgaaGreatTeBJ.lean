/-
Lemmas of the walk; no further conditions.
-/
import Derived.Test.YtjajigkacccdgaaGreatTeBI
set_option linter.unusedVariables false
set_option linter.unusedSimpArgs false
set_option maxRecDepth 100000
set_option maxHeartbeats 16000000
namespace Go.Proofs.YtjajigkacccdgaaGreat
open Go.RowKit
open Wd
theorem clears_any (A B:Option Addr) (n c m d:Nat) (os bs:List (List (Int×Int))) (an an':Bool) (aA aA':Option Addr) (ak ac ak' ac':Nat) (q:Rat) (w:World) (h:CsAt w A n os) (h':CsAt w B m bs) (hq:QArg w an aA ak ac an' aA' ak' ac' q) (hs:∀ l∈os,l.length≤1000000000000) (ht:∀ l∈bs,l.length≤1000000000000) :
  Calls Tryz.prog 51 #[.slice A n c,.slice B m d,.agg #[.bool an,.slice aA ak ac,.bool an',.slice aA' ak' ac']] w fun e w'=>e=.returned (.tuple #[.bool (decide (ckB os bs=0) && balB os bs q),.int .i64 (ckB os bs)])∧Below w.heap.size w w':=by
 have HC:=Hj (fun W (hW:Below w.heap.size w W)=>ccheck_any A B n c m d os bs W (h.below hW) (h'.below hW) hs ht);by_cases hc:ckB os bs=0
 ·obtain ⟨hl5,hl6,hco,hcb⟩:=ckB_iff.1 hc;have HB:=Hj (fun W (hW:Below w.heap.size w W)=>balances_any A B n c m d os bs an an' aA aA' ak ac ak' ac' q W (h.below hW) (h'.below hW) (hq.below hW) hco hcb (by have:=h.1;omega) (by have:=h'.1;omega));rw [hc] at HC;rw [hc];simp only [decide_true,Bool.true_and];clear h h' hs ht hc hq hl5 hl6 hco hcb;go_enter Tryz.func51,Tryz.ntmps51
  go_wp2_with fail
  have hbx:=Blk.new w 42 #[.bool an,.slice aA ak ac,.bool an',.slice aA' ak' ac'];have hb0:Below w.heap.size w (w.alloc (.cells #[.bool an,.slice aA ak ac,.bool an',.slice aA' ak' ac'] 42)):=(Below.refl _ _).alloc (Nat.le_refl _) _;generalize w.alloc (.cells #[.bool an,.slice aA ak ac,.bool an',.slice aA' ak' ac'] 42)=W0 at *;refine (HC.out W0 hb0).mono ?_;rintro e w1 ⟨rfl,hb1⟩;obtain ⟨f0,f1,f2,f3,-,-,-,-⟩:=(hbx.below hb1 hbx.lt).four;have HB1:=Hj (hb0.trans (hb1.mono hb0.size));clear hbx hb0 hb1 HC
  go_wp2_with fail
  refine (HB.out w1 HB1.out).mono ?_;rintro e w2 ⟨rfl,hb2⟩;have HB2:=Hj (HB1.out.trans (hb2.mono HB1.out.size));clear hb2 HB1 HB;go_wp2;refine bodyPost_ret (v:=.tuple #[.bool (balB os bs q),.int .i64 0]) ?_ rfl ⟨rfl,HB2.out⟩;simp [results,Tryz.results51,go_sem]
 ·rw [decide_eq_false hc,Bool.false_and];generalize ckB os bs=x at *;have dx:(x != 0)=true:=by simpa using hc
  clear h h' hs ht hc hq;go_enter Tryz.func51,Tryz.ntmps51
  go_wp2_with fail
  have hb0:Below w.heap.size w (w.alloc (.cells #[.bool an,.slice aA ak ac,.bool an',.slice aA' ak' ac'] 42)):=(Below.refl _ _).alloc (Nat.le_refl _) _;generalize w.alloc (.cells #[.bool an,.slice aA ak ac,.bool an',.slice aA' ak' ac'] 42)=W0 at *;refine (HC.out W0 hb0).mono ?_;rintro e w1 ⟨rfl,hb1⟩;have HB1:=Hj (hb0.trans (hb1.mono hb0.size));clear hb0 hb1 HC;go_wp2;refine bodyPost_ret (v:=.tuple #[.bool false,.int .i64 x]) ?_ rfl ⟨rfl,HB1.out⟩;simp [results,Tryz.results51,go_sem]
section
variable {base g k c k' c':Nat} {w w':World} {A A' B B':Option Addr} {l:List Nat} {a b:Bool}
end
theorem RQ.lens {s k c k' c':Nat} {w:World} {q:Rat} {A A':Option Addr} (h:RQ w q A k c A' k' c') (hq:Ls s q):k≤s∧k'≤s:=by
 obtain ⟨-,-,h1,h2⟩:=h;constructor
 ·rw [← h1.1];exact digs_len_le.2 hq.1
 ·rw [← h2.1];have:=digs_len_le.2 hq.2;unfold denW;split
  ·exact Nat.zero_le _
  ·exact this
section
variable {base g n:Nat} {w w':World}
end
theorem long_q (an an':Bool) (pA pB:Option Addr) (pk pc pj pd:Nat) (W:World) :
  Calls Tryz.prog 23 #[.slice (some ⟨W.heap.size,0,none⟩) 1 1] (W.alloc (.cells #[.bool an,.slice pA pk pc,.bool an',.slice pB pj pd] 42)) fun e w'=>e=.returned (.bool ([(an,(pA,pk,pc),an',(pB,pj,pd))].any bigQ))∧Below (W.alloc (.cells #[.bool an,.slice pA pk pc,.bool an',.slice pB pj pd] 42)).heap.size (W.alloc (.cells #[.bool an,.slice pA pk pc,.bool an',.slice pB pj pd] 42)) w' :=
 long23_any (some ⟨W.heap.size,0,none⟩) 1 1 _ _ (QsAtR.one (Blk.new W 42 #[.bool an,.slice pA pk pc,.bool an',.slice pB pj pd])) (by omega)
theorem is_wq {s:Nat} (hs:s≤1000000) {q:Rat} (hl:Ls s q) {w:World} {A A' B B':Option Addr} {k c k' c' j d j' d':Nat} (h:RQ w q A k c A' k' c') (h':RQ w q B j d B' j' d') :
  Calls Tryz.prog 34 #[.agg #[.bool (decide ((q).num<0)),.slice A k c,.bool false,.slice A' k' c'],.agg #[.bool (decide ((q).num<0)),.slice B j d,.bool false,.slice B' j' d']] w fun e w'=>e=.returned (.bool true)∧Below w.heap.size w w':=by
 have e1:=h.2.2.1.len.trans h'.2.2.1.len.symm;have e2:=h.2.2.2.len.trans h'.2.2.2.len.symm;subst e1;subst e2;have:=RQ.lens h hl;exact ris_yes q A B A' B' k c k' c' d d' w h h' (by omega) (by omega)
theorem is_zero {w:World} (h:RQ w 0 none 0 0 none 0 0) (h':RQ w 0 none 0 0 none 0 0):Calls Tryz.prog 34 #[.agg #[.bool false,.slice none 0 0,.bool false,.slice none 0 0],.agg #[.bool false,.slice none 0 0,.bool false,.slice none 0 0]] w fun e w'=>e=.returned (.bool true)∧Below w.heap.size w w':=by
 have:=is_wq (s:=1) (by decide) (ls_zero 1 (by decide)) h h';exact this
theorem cqm_any (A B G H:Option Addr) (n c m d gn gc hn hc:Nat) (os bs:List (List (Int×Int))) (an an':Bool) (pA pB:Option Addr) (pk pc pj pd:Nat) (eg et:List QE) (w:World) (h:CsAt w A n os) (h':CsAt w B m bs) (hp:QRaw w pA pk pc pB pj pd) (hg:GRaw w G gn eg) (ht:GRaw w H hn et):Calls Tryz.prog 10 #[.slice A n c,.slice B m d,.agg #[.bool an,.slice pA pk pc,.bool an',.slice pB pj pd],.slice G gn gc,.slice H hn hc] w fun e w'=>e=.returned (.bool true)∧Below w.heap.size w w':=by
 have HAW:=Hj (fun W=>awake25_any W);have HL:=Hj (fun W (hW:Below w.heap.size w W)=>long25_any A B n c m d os bs W (h.below hW) (h'.below hW));have HLQ:=Hj (fun W=>long_q an an' pA pB pk pc pj pd W);have HG2:=Hj (fun W (hW:Below w.heap.size w W)=>long23_big G gn gc eg W (hg.1.below hW) hg.2.2);have HG3:=Hj (fun W (hW:Below w.heap.size w W)=>long23_big H hn hc et W (ht.1.below hW) ht.2.2);have HP:=Hj hp;have HG:=Hj hg;have HT:=Hj ht;have HX:=Hj h;have HY:=Hj h';clear h h' hp hg ht;have HLC:=Hj (rfl:longC os=longC os);generalize hx1:(longC os || longC bs)=x1 at *;have HX1:=Hj hx1;clear hx1;generalize hx0:[(an,(pA,pk,pc),an',(pB,pj,pd))].any bigQ=x0 at *;have HX0:=Hj hx0;clear hx0;generalize hx2:eg.any bigQ=x2 at *;have HX2:=Hj hx2;clear hx2;generalize hx3:et.any bigQ=x3 at *;have HX3:=Hj hx3;clear hx3;go_enter Tryz.func10,Tryz.ntmps10
 go_wp2_with fail
 have hB0:=Blk.new w 42 #[.bool an,.slice pA pk pc,.bool an',.slice pB pj pd];have hBW:Below w.heap.size w (w.alloc (.cells #[.bool an,.slice pA pk pc,.bool an',.slice pB pj pd] 42)):=(Below.refl _ _).alloc (Nat.le_refl _) _;generalize w.alloc (.cells #[.bool an,.slice pA pk pc,.bool an',.slice pB pj pd] 42)=W at *;cases x1;rotate_left
 ·refine (HL.out W hBW).mono ?_;rintro e w1 ⟨rfl,hb1⟩;obtain ⟨f0,f1,f2,f3,-,-,-,-⟩:=(hB0.below hb1 hB0.lt).four;have HBX1:=Hj (hB0.below hb1 hB0.lt);have HB1:=Hj (hBW.trans (hb1.mono hBW.size));clear hb1 HL hB0 hBW
  go_wp2_with fail
  refine (HAW.out _).mono ?_;rintro e wz ⟨rfl,hbz⟩;have HBZ:=Hj (HB1.out.trans (hbz.mono HB1.out.size));clear hbz;go_wp2;go_ret;exact ⟨rfl,HBZ.out⟩
 refine (HL.out W hBW).mono ?_;rintro e w1 ⟨rfl,hb1⟩;obtain ⟨f0,f1,f2,f3,-,-,-,-⟩:=(hB0.below hb1 hB0.lt).four;have HBX1:=Hj (hB0.below hb1 hB0.lt);have HB1:=Hj (hBW.trans (hb1.mono hBW.size));clear hb1 HL hB0 hBW
 go_wp2_with fail
 cases x0;rotate_left
 ·refine (HLQ.out w1).mono ?_;rintro e w2 ⟨rfl,hb2⟩;have hb2':Below w1.heap.size w1 w2:=Below.trans ((Kp.refl w1).alloc (.cells #[.bool an,.slice pA pk pc,.bool an',.slice pB pj pd] 42)) (hb2.mono (by simp));have HB2:=Hj (HB1.out.trans (hb2'.mono HB1.out.size));have HBX2:=Hj (HBX1.out.below hb2' HBX1.out.lt);obtain ⟨f0,f1,f2,f3,-,-,-,-⟩:=HBX2.out.four;clear hb2 hb2' HB1 HBX1 HLQ
  go_wp2_with fail
  refine (HAW.out _).mono ?_;rintro e wz ⟨rfl,hbz⟩;have HBZ:=Hj (HB2.out.trans (hbz.mono HB2.out.size));clear hbz;go_wp2;go_ret;exact ⟨rfl,HBZ.out⟩
 refine (HLQ.out w1).mono ?_;rintro e w2 ⟨rfl,hb2⟩;have hb2':Below w1.heap.size w1 w2:=Below.trans ((Kp.refl w1).alloc (.cells #[.bool an,.slice pA pk pc,.bool an',.slice pB pj pd] 42)) (hb2.mono (by simp));have HB2:=Hj (HB1.out.trans (hb2'.mono HB1.out.size));have HBX2:=Hj (HBX1.out.below hb2' HBX1.out.lt);obtain ⟨f0,f1,f2,f3,-,-,-,-⟩:=HBX2.out.four;clear hb2 hb2' HB1 HBX1 HLQ
 go_wp2_with fail
 cases x2;rotate_left
 ·refine (HG2.out w2 HB2.out).mono ?_;rintro e w3 ⟨rfl,hb3⟩;have HB3:=Hj (HB2.out.trans (hb3.mono HB2.out.size));have HBX3:=Hj (HBX2.out.below hb3 HBX2.out.lt);obtain ⟨f0,f1,f2,f3,-,-,-,-⟩:=HBX3.out.four;clear hb3 HB2 HBX2 HG2
  go_wp2_with fail
  refine (HAW.out _).mono ?_;rintro e wz ⟨rfl,hbz⟩;have HBZ:=Hj (HB3.out.trans (hbz.mono HB3.out.size));clear hbz;go_wp2;go_ret;exact ⟨rfl,HBZ.out⟩
 refine (HG2.out w2 HB2.out).mono ?_;rintro e w3 ⟨rfl,hb3⟩;have HB3:=Hj (HB2.out.trans (hb3.mono HB2.out.size));have HBX3:=Hj (HBX2.out.below hb3 HBX2.out.lt);obtain ⟨f0,f1,f2,f3,-,-,-,-⟩:=HBX3.out.four;clear hb3 HB2 HBX2 HG2
 go_wp2_with fail
 cases x3;rotate_left
 ·refine (HG3.out w3 HB3.out).mono ?_;rintro e w4 ⟨rfl,hb4⟩;have HB4:=Hj (HB3.out.trans (hb4.mono HB3.out.size));have HBX4:=Hj (HBX3.out.below hb4 HBX3.out.lt);obtain ⟨f0,f1,f2,f3,-,-,-,-⟩:=HBX4.out.four;clear hb4 HB3 HBX3 HG3
  go_wp2_with fail
  refine (HAW.out _).mono ?_;rintro e wz ⟨rfl,hbz⟩;have HBZ:=Hj (HB4.out.trans (hbz.mono HB4.out.size));clear hbz;go_wp2;go_ret;exact ⟨rfl,HBZ.out⟩
 by_cases hsz:30<gn∨30<hn
 ·by_cases x4:30<gn
  ·have d4:decide ((30:Int)<(gn:Int))=true:=by simp;omega
   clear hsz x4;refine (HG3.out w3 HB3.out).mono ?_;rintro e w4 ⟨rfl,hb4⟩;have HB4:=Hj (HB3.out.trans (hb4.mono HB3.out.size));have HBX4:=Hj (HBX3.out.below hb4 HBX3.out.lt);obtain ⟨f0,f1,f2,f3,-,-,-,-⟩:=HBX4.out.four;clear hb4 HB3 HBX3 HG3
   go_wp2_with fail
   refine (HAW.out _).mono ?_;rintro e wz ⟨rfl,hbz⟩;have HBZ:=Hj (HB4.out.trans (hbz.mono HB4.out.size));clear hbz;go_wp2;go_ret;exact ⟨rfl,HBZ.out⟩
  ·have d4:decide ((30:Int)<(gn:Int))=false:=by simp;omega
   have d5:decide ((30:Int)<(hn:Int))=true:=by simp;omega
   clear hsz x4;refine (HG3.out w3 HB3.out).mono ?_;rintro e w4 ⟨rfl,hb4⟩;have HB4:=Hj (HB3.out.trans (hb4.mono HB3.out.size));have HBX4:=Hj (HBX3.out.below hb4 HBX3.out.lt);obtain ⟨f0,f1,f2,f3,-,-,-,-⟩:=HBX4.out.four;clear hb4 HB3 HBX3 HG3
   go_wp2_with fail
   refine (HAW.out _).mono ?_;rintro e wz ⟨rfl,hbz⟩;have HBZ:=Hj (HB4.out.trans (hbz.mono HB4.out.size));clear hbz;go_wp2;go_ret;exact ⟨rfl,HBZ.out⟩
 have d4:decide ((30:Int)<(gn:Int))=false:=by simp;omega
 have d5:decide ((30:Int)<(hn:Int))=false:=by simp;omega
 clear hsz;refine (HG3.out w3 HB3.out).mono ?_;rintro e w4 ⟨rfl,hb4⟩;have HB4:=Hj (HB3.out.trans (hb4.mono HB3.out.size));have HBX4:=Hj (HBX3.out.below hb4 HBX3.out.lt);obtain ⟨f0,f1,f2,f3,-,-,-,-⟩:=HBX4.out.four;clear hb4 HB3 HBX3 HG3
 go_wp2_with fail
 obtain ⟨gs,hgs⟩:=HG.out.qs HX2.out;obtain ⟨ts,hts⟩:=HT.out.qs HX3.out;obtain ⟨l1,l2⟩:longC os=false∧longC bs=false:=by simpa using HX1.out
 have hs:=longC_small l1;have hr:=longC_small l2;obtain ⟨q,hq⟩:∃ q,QS 7 w an pA pk pc an' pB pj pd q:=by
  obtain ⟨l,l',w1,w2,c1,c2⟩:=HP.out;have hb:bigQ (an,(pA,pk,pc),an',(pB,pj,pd))=false:=by simpa using HX0.out
  unfold bigQ at hb;simp only [Bool.or_eq_false_iff,decide_eq_false_iff_not] at hb;exact qk_raw w1 w2 c1 c2 (by omega) (by omega)
 have HC1:=Hj (fun W (hW:Below w.heap.size w W)=>clears_any A B n c m d os bs an an' pA pB pk pc pj pd q W (HX.out.below hW) (HY.out.below hW) (hq.below hW).arg hs hr);have HC2:=Hj (fun W (hW:Below w.heap.size w W)=>rclears25_any A B n c m d os bs an an' pA pB pk pc pj pd q W (HX.out.below hW) (HY.out.below hW) (hq.below hW));have HW1:=Hj (fun W (hW:Below w.heap.size w W)=>welfare_any A B G H n c m d gn gc hn hc os bs gs ts W (HX.out.below hW) (HY.out.below hW) (hgs.below hW) (hts.below hW) hs hr);have HW2:=Hj (fun W (hW:Below w.heap.size w W)=>rwelfare_any A B G H n c m d gn gc hn hc os bs gs ts W (HX.out.below hW) (HY.out.below hW) (hgs.below hW) (hts.below hW));have hvl:wfE os bs gs ts=0→Ls 200000 (wfV os bs gs ts):=fun hz=>by
  obtain ⟨c1,c2,c3,c4,c5,-⟩:=wfE_zero hz;obtain ⟨es,_,hw⟩:=hgs.raw;obtain ⟨es',_,hw'⟩:=hts.raw;exact wfV_ls c1 c4 c5 (fun j hj=>(hw j (by have:=hgs.1;omega)).ls) (fun j hj=>(hw' j (by have:=hts.1;omega)).ls)
 have HVL:=Hj hvl;unfold RWelP at HW2;have hbk:(ckB os bs == ckB os bs)=true:=by simp
 have hbl:((decide (ckB os bs=0) && balB os bs q) == (decide (ckB os bs=0) && balB os bs q))=true:=by simp
 clear HX1 HX0 HX2 HX3 HP HG HT HX HY HLC;generalize (decide (ckB os bs=0) && balB os bs q)=bb at *;generalize ckB os bs=ck at *;generalize hwe:wfE os bs gs ts=we at *;generalize wfV os bs gs ts=wv at *;clear hgs hts hq hs hr l1 l2 hvl hwe;refine (HC1.out w4 HB4.out).mono ?_;rintro e w5 ⟨rfl,hb5⟩;have HB5:=Hj (HB4.out.trans (hb5.mono HB4.out.size));have HBX5:=Hj (HBX4.out.below hb5 HBX4.out.lt);obtain ⟨f0,f1,f2,f3,-,-,-,-⟩:=HBX5.out.four;clear hb5 HB4 HBX4 HC1
 go_wp2_with fail
 refine (HC2.out w5 HB5.out).mono ?_;rintro e w6 ⟨rfl,hb6⟩;have HB6:=Hj (HB5.out.trans (hb6.mono HB5.out.size));clear hb6 HB5 HBX5 HC2 f0 f1 f2 f3
 go_wp2_with fail
 refine (HW1.out w6 HB6.out).mono ?_;rintro e w7 (⟨hz,A1,k1,c1,A2,k2,c2,rfl,hcq,hb7⟩|⟨hz,rfl,hb7⟩)
 ·have r7:RQ w7 wv A1 k1 c1 A2 k2 c2:=hcq.wq;clear hcq;have k7:=(Kp.refl w7).alloc (.cells #[.bool (decide ((wv).num<0)),.slice A1 k1 c1,.bool false,.slice A2 k2 c2] 42);have HX7:=Hj (And.intro (Blk.new w7 42 #[.bool (decide ((wv).num<0)),.slice A1 k1 c1,.bool false,.slice A2 k2 c2]) (r7.below k7));have HB7:=Hj ((HB6.out.trans (hb7.mono HB6.out.size)).trans (Below.mono k7 (HB6.out.trans (hb7.mono HB6.out.size)).size));clear k7 r7 hb7 HB6 HW1
  go_wp2_with fail
  generalize w7.alloc (.cells #[.bool (decide ((wv).num<0)),.slice A1 k1 c1,.bool false,.slice A2 k2 c2] 42)=W7 at *;generalize w7.heap.size=g7 at *;refine (HW2.out W7 HB7.out).mono ?_;rintro e w8 (⟨-,B1,j1,d1,B2,j2,d2,rfl,hcq2,hb8⟩|⟨hz2,-⟩);rotate_left
  ·exact absurd hz hz2
  have r8:RQ w8 wv B1 j1 d1 B2 j2 d2:=hcq2.wq;clear hcq2;have hb8':Kp W7 w8:=hb8;have k8:=(Kp.refl w8).alloc (.cells #[.bool (decide ((wv).num<0)),.slice B1 j1 d1,.bool false,.slice B2 j2 d2] 42);have HX8:=Hj (And.intro (Kp.blk k8 (Kp.blk hb8' HX7.out.1)) (And.intro ((HX7.out.2.below hb8').below k8) (And.intro (Blk.new w8 42 #[.bool (decide ((wv).num<0)),.slice B1 j1 d1,.bool false,.slice B2 j2 d2]) (r8.below k8))));have HB8:=Hj ((HB7.out.trans (hb8.mono HB7.out.size)).trans (Below.mono k8 (HB7.out.trans (hb8.mono HB7.out.size)).size));clear k8 r8 hb8 hb8' HB7 HX7 HW2;obtain ⟨a0,a1,a2,a3,-,-,-,-⟩:=HX8.out.1.four;obtain ⟨b0,b1,b2,b3,-,-,-,-⟩:=HX8.out.2.2.1.four
  go_wp2_with fail
  generalize w8.alloc (.cells #[.bool (decide ((wv).num<0)),.slice B1 j1 d1,.bool false,.slice B2 j2 d2] 42)=W8 at *;generalize w8.heap.size=g8 at *;refine (is_wq (by decide) (HVL.out hz) (HX8.out.2.1) (HX8.out.2.2.2)).mono ?_;rintro e w9 ⟨rfl,hb9⟩;have HB9:=Hj (HB8.out.trans (hb9.mono HB8.out.size));clear hb9 HB8 HX8 a0 a1 a2 a3 b0 b1 b2 b3
  go_wp2_with fail
  refine (HAW.out _).mono ?_;rintro e wz ⟨rfl,hbz⟩;have HBZ:=Hj (HB9.out.trans (hbz.mono HB9.out.size));clear hbz;go_wp2;go_ret;exact ⟨rfl,HBZ.out⟩
 ·have hwq:(we == we)=true:=by simp
  have r7:RQ w7 0 none 0 0 none 0 0:=(CQ.zero (base:=0) (w:=w7)).wq;have k7:=(Kp.refl w7).alloc (.cells #[.bool false,.slice none 0 0,.bool false,.slice none 0 0] 42);have HX7:=Hj (And.intro (Blk.new w7 42 #[.bool false,.slice none 0 0,.bool false,.slice none 0 0]) (r7.below k7));have HB7:=Hj ((HB6.out.trans (hb7.mono HB6.out.size)).trans (Below.mono k7 (HB6.out.trans (hb7.mono HB6.out.size)).size));clear k7 r7 hb7 HB6 HW1
  go_wp2_with fail
  generalize w7.alloc (.cells #[.bool false,.slice none 0 0,.bool false,.slice none 0 0] 42)=W7 at *;generalize w7.heap.size=g7 at *;refine (HW2.out W7 HB7.out).mono ?_;rintro e w8 (⟨hz2,-⟩|⟨-,rfl,hb8⟩)
  ·exact absurd hz2 hz
  have r8:RQ w8 0 none 0 0 none 0 0:=(CQ.zero (base:=0) (w:=w8)).wq;have hb8':Kp W7 w8:=hb8;have k8:=(Kp.refl w8).alloc (.cells #[.bool false,.slice none 0 0,.bool false,.slice none 0 0] 42);have HX8:=Hj (And.intro (Kp.blk k8 (Kp.blk hb8' HX7.out.1)) (And.intro ((HX7.out.2.below hb8').below k8) (And.intro (Blk.new w8 42 #[.bool false,.slice none 0 0,.bool false,.slice none 0 0]) (r8.below k8))));have HB8:=Hj ((HB7.out.trans (hb8.mono HB7.out.size)).trans (Below.mono k8 (HB7.out.trans (hb8.mono HB7.out.size)).size));clear k8 r8 hb8 hb8' HB7 HX7 HW2;obtain ⟨a0,a1,a2,a3,-,-,-,-⟩:=HX8.out.1.four;obtain ⟨b0,b1,b2,b3,-,-,-,-⟩:=HX8.out.2.2.1.four
  go_wp2_with fail
  generalize w8.alloc (.cells #[.bool false,.slice none 0 0,.bool false,.slice none 0 0] 42)=W8 at *;generalize w8.heap.size=g8 at *;refine (is_zero (HX8.out.2.1) (HX8.out.2.2.2)).mono ?_;rintro e w9 ⟨rfl,hb9⟩;have HB9:=Hj (HB8.out.trans (hb9.mono HB8.out.size));clear hb9 HB8 HX8 a0 a1 a2 a3 b0 b1 b2 b3
  go_wp2_with fail
  refine (HAW.out _).mono ?_;rintro e wz ⟨rfl,hbz⟩;have HBZ:=Hj (HB9.out.trans (hbz.mono HB9.out.size));clear hbz;go_wp2;go_ret;exact ⟨rfl,HBZ.out⟩
end Go.Proofs.YtjajigkacccdgaaGreat
