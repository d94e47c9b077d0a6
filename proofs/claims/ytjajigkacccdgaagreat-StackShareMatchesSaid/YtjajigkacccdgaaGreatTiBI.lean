/-
Lemmas of the walk; no further conditions.
-/
import Derived.Test.YtjajigkacccdgaaGreatTiBH
set_option linter.unusedVariables false
set_option linter.unusedSimpArgs false
set_option maxRecDepth 100000
set_option maxHeartbeats 16000000
namespace Go.Proofs.YtjajigkacccdgaaGreat
open Go.RowKit
open Wd
theorem longL_no {lv:List St.Lv} (h:longL lv=false):lv.length≤60∧∀ j,j<lv.length→(lv[j]?.getD Lv0).2.2.length≤30:=by
 unfold longL at h;rw [Bool.or_eq_false_iff] at h;refine ⟨by have:=h.1;simp at this;exact this,fun j hj=>?_⟩;have:=List.any_eq_false.1 h.2 _ (getD_mem (d:=Lv0) hj);simpa using this
theorem long_q9 (an an':Bool) (pA pB:Option Addr) (pk pc pj pd:Nat) (W:World) :
  Calls Tryz.prog 23 #[.slice (some ⟨W.heap.size,0,none⟩) 1 1] (W.alloc (.cells #[.bool an,.slice pA pk pc,.bool an',.slice pB pj pd] 42)) fun e w'=>e=.returned (.bool ([(an,(pA,pk,pc),an',(pB,pj,pd))].any bigQ))∧Below (W.alloc (.cells #[.bool an,.slice pA pk pc,.bool an',.slice pB pj pd] 42)).heap.size (W.alloc (.cells #[.bool an,.slice pA pk pc,.bool an',.slice pB pj pd] 42)) w' :=
 long23_any (some ⟨W.heap.size,0,none⟩) 1 1 _ _ (QsAtR.one (Blk.new W 42 #[.bool an,.slice pA pk pc,.bool an',.slice pB pj pd])) (by omega)
theorem is_wq9 {s:Nat} (hs:s≤1000000) {q:Rat} (hl:Ls s q) {w:World} {A A' B B':Option Addr} {k c k' c' j d j' d':Nat} (h:RQ w q A k c A' k' c') (h':RQ w q B j d B' j' d') :
  Calls Tryz.prog 34 #[.agg #[.bool (decide (q.num<0)),.slice A k c,.bool false,.slice A' k' c'],.agg #[.bool (decide (q.num<0)),.slice B j d,.bool false,.slice B' j' d']] w fun e w'=>e=.returned (.bool true)∧Below w.heap.size w w':=by
 have e1:=h.2.2.1.len.trans h'.2.2.1.len.symm;have e2:=h.2.2.2.len.trans h'.2.2.2.len.symm;subst e1;subst e2;have:=RQ.lens h hl;exact ris_yes q A B A' B' k c k' c' d d' w h h' (by omega) (by omega)
theorem FrX.below {base:Nat} {w w':World} {X:Option Addr} {n:Nat} (h:FrX base w X n) (hb:Below w.heap.size w w'):FrX base w' X n :=
 h.imp id fun ⟨g,h1,h2,h3⟩=>⟨g,h1,h2,h3.below hb⟩
def SpJ (wv:World) (g n i:Nat) (A:Option Addr) (k c:Nat) (w:World):Prop :=
 Below wv.heap.size wv w∧FrRow wv.heap.size w g n∧w.cell? ⟨g,i*4+1,none⟩=some (.slice A k c)∧Wr wv.heap.size g w A k
theorem SpJ.put {wv w:World} {g n i k c b o:Nat} {A:Option Addr} {v:Value} (h:SpJ wv g n i A k c w) (h1:wv.heap.size≤b) (h2:b≠g):SpJ wv g n i A k c (w.setCell ⟨b,o,none⟩ v):=by
 obtain ⟨y1,y2,y3,y4⟩:=h;exact ⟨y1.setCell (p:=⟨b,o,none⟩) h1 v,y2.set (p:=⟨b,o,none⟩) h2 v,(World.cell?_setCell_far _ _ _ _ h2).trans y3,y4.set _ _⟩
theorem sshare_any (A:Option Addr) (m c:Nat) (lv:List St.Lv) (an an':Bool) (pA pB:Option Addr) (pk pc pj pd:Nat) (w:World) (h:LsAt w A m lv) (hp:QRaw w pA pk pc pB pj pd):Calls Tryz.prog 4 #[.slice A m c,.agg #[.bool an,.slice pA pk pc,.bool an',.slice pB pj pd]] w fun e w'=>e=.returned (.bool true)∧Below w.heap.size w w':=by
 have HAW:=Hj (fun W=>awake24_any W);have HL:=Hj (fun W (hW:Below w.heap.size w W)=>longs_any A m c lv W (h.below hW));have HLQ:=Hj (fun W=>long_q9 an an' pA pB pk pc pj pd W);have HLN:=Hj (fun hx:longL lv=false=>longL_no hx);generalize hx1:longL lv=x1 at *;generalize hx0:[(an,(pA,pk,pc),an',(pB,pj,pd))].any bigQ=x0 at *;cases x1;rotate_left
 ·clear HLN HLQ hx1 hx0 h hp;go_enter Tryz.func4,Tryz.ntmps4
  go_wp2_with fail
  have hB0:=Blk.new w 42 #[.bool an,.slice pA pk pc,.bool an',.slice pB pj pd];have hBW:Below w.heap.size w (w.alloc (.cells #[.bool an,.slice pA pk pc,.bool an',.slice pB pj pd] 42)):=(Below.refl _ _).alloc (Nat.le_refl _) _;generalize w.alloc (.cells #[.bool an,.slice pA pk pc,.bool an',.slice pB pj pd] 42)=W at *;refine (HL.out W hBW).mono ?_;rintro e w1 ⟨rfl,hb1⟩;obtain ⟨f0,f1,f2,f3,-,-,-,-⟩:=(hB0.below hb1 hB0.lt).four;have HBX1:=Hj (hB0.below hb1 hB0.lt);have HB1:=Hj (hBW.trans (hb1.mono hBW.size));clear hb1 HL hB0 hBW
  go_wp2_with fail
  refine (HAW.out _).mono ?_;rintro e wz ⟨rfl,hbz⟩;have HBZ:=Hj (HB1.out.trans (hbz.mono HB1.out.size));clear hbz;go_wp2;go_ret;exact ⟨rfl,HBZ.out⟩
 cases x0;rotate_left
 ·clear HLN hx1 hx0 h hp;go_enter Tryz.func4,Tryz.ntmps4
  go_wp2_with fail
  have hB0:=Blk.new w 42 #[.bool an,.slice pA pk pc,.bool an',.slice pB pj pd];have hBW:Below w.heap.size w (w.alloc (.cells #[.bool an,.slice pA pk pc,.bool an',.slice pB pj pd] 42)):=(Below.refl _ _).alloc (Nat.le_refl _) _;generalize w.alloc (.cells #[.bool an,.slice pA pk pc,.bool an',.slice pB pj pd] 42)=W at *;refine (HL.out W hBW).mono ?_;rintro e w1 ⟨rfl,hb1⟩;obtain ⟨f0,f1,f2,f3,-,-,-,-⟩:=(hB0.below hb1 hB0.lt).four;have HBX1:=Hj (hB0.below hb1 hB0.lt);have HB1:=Hj (hBW.trans (hb1.mono hBW.size));clear hb1 HL hB0 hBW
  go_wp2_with fail
  refine (HLQ.out w1).mono ?_;rintro e w2 ⟨rfl,hb2⟩;have hb2':Below w1.heap.size w1 w2:=Below.trans ((Kp.refl w1).alloc (.cells #[.bool an,.slice pA pk pc,.bool an',.slice pB pj pd] 42)) (hb2.mono (by simp));have HB2:=Hj (HB1.out.trans (hb2'.mono HB1.out.size));have HBX2:=Hj (HBX1.out.below hb2' HBX1.out.lt);obtain ⟨f0,f1,f2,f3,-,-,-,-⟩:=HBX2.out.four;clear hb2 hb2' HB1 HBX1 HLQ
  go_wp2_with fail
  refine (HAW.out _).mono ?_;rintro e wz ⟨rfl,hbz⟩;have HBZ:=Hj (HB2.out.trans (hbz.mono HB2.out.size));clear hbz;go_wp2;go_ret;exact ⟨rfl,HBZ.out⟩
 obtain ⟨hl60,hl30⟩:=HLN.out rfl;have hm:=h.1;have hm60:m≤60:=by omega
 have hpl:∀ j,j<m→(lv[j]?.getD Lv0).2.2.length≤1000000:=fun j hj=>by have:=hl30 j (by omega);omega
 obtain ⟨q,hq⟩:∃ q,QS 7 w an pA pk pc an' pB pj pd q:=by
  have hb:bigQ (an,(pA,pk,pc),an',(pB,pj,pd))=false:=by simpa using hx0
  unfold bigQ at hb;simp only [Bool.or_eq_false_iff,decide_eq_false_iff_not] at hb;exact hp.qs an an' (by omega) (by omega)
 have TG:=Hj (fun W (hW:Below w.heap.size w W)=>given_any A m c lv W (h.below hW) (by omega) hpl);have TT:=Hj (fun (W:World) {I:Option Addr} {ic:Nat} (hI:LsAt W I m lv)=>tolds_any I m ic lv W hI (by omega) hpl);have TC1:=Hj (fun (W:World) {I:Option Addr} {ic:Nat} (hI:LsAt W I m lv)=>check_any I m ic lv W hI);have TC2:=Hj (fun (W:World) (I:Option Addr) (ic:Nat) (hI:LsAt W I m lv)=>rchkl_any I m ic lv W hI);have TT1:=Hj (fun (W:World) {I:Option Addr} {ic:Nat} (hI:LsAt W I m lv)=>total_any I m ic lv W hI);have TT2:=Hj (fun (W:World) (I:Option Addr) (ic:Nat) (hI:LsAt W I m lv)=>rtotal_any I m ic lv W hI);have TSM:=Hj (fun (W:World) (I J:Option Addr) (ic jc:Nat) (hI:LsAt W I m lv) (hJ:LsAt W J m lv)=>sames_yes I J m ic jc lv W hI hJ (by omega) hpl);have TRS:=Hj (fun W (hW:Below w.heap.size w W) (I:Option Addr) (ic:Nat) (hI:LsAt W I m lv)=>rshare_p (c:=ic) hI (hq.below hW));have TRC:=Hj (fun W (hW:Below w.heap.size w W) (I:Option Addr) (ic:Nat) (hI:LsAt W I m lv)=>rcost_p (c:=ic) hI (hq.below hW));have TPS:=Hj (fun W (hW:Below w.heap.size w W) {I:Option Addr} {ic:Nat} (hI:LsAt W I m lv)=>share_p (c:=ic) hI (hq.below hW));have TPC:=Hj (fun W (hW:Below w.heap.size w W) {I:Option Addr} {ic:Nat} (hI:LsAt W I m lv)=>cost_p (c:=ic) hI (hq.below hW));have HPZ:=Hj (shP_ls (lv:=lv) hq.ls);have HCZ:=Hj (coP_ls (lv:=lv) hq.ls);have hnn:(shP lv q).length≤1000000:=by
  by_cases hc:wrC lv q=0
  ·by_cases hm0:lv.length=0
   ·rw [List.eq_nil_of_length_eq_zero hm0,shP_nil];exact Nat.zero_le _
   ·rw [shP_len hc];have:=hl30 0 (by omega);have e:(prt lv 0).length≤30:=this;omega
  ·rw [shP_bad hc];exact Nat.zero_le _
 have HNN:=Hj hnn;unfold ShQ at TRS;unfold ShF at TPS;unfold CoQ at TRC TPC;clear HLN hx1 hx0 h hp hl60 hl30 hm hpl hq hnn;generalize shP lv q=ps at *;generalize coP lv q=cv at *;generalize wrC lv q=x at *;generalize chkL lv=ck at *;generalize totL lv=tt at *;generalize ps.length=nn at *;go_enter Tryz.func4,Tryz.ntmps4
 go_wp2_with fail
 have hB0:=Blk.new w 42 #[.bool an,.slice pA pk pc,.bool an',.slice pB pj pd];have hBW:Below w.heap.size w (w.alloc (.cells #[.bool an,.slice pA pk pc,.bool an',.slice pB pj pd] 42)):=(Below.refl _ _).alloc (Nat.le_refl _) _;generalize w.alloc (.cells #[.bool an,.slice pA pk pc,.bool an',.slice pB pj pd] 42)=W at *;refine (HL.out W hBW).mono ?_;rintro e w1 ⟨rfl,hb1⟩;obtain ⟨f0,f1,f2,f3,-,-,-,-⟩:=(hB0.below hb1 hB0.lt).four;have HBX1:=Hj (hB0.below hb1 hB0.lt);have HB1:=Hj (hBW.trans (hb1.mono hBW.size));clear hb1 HL hB0 hBW
 go_wp2_with fail
 refine (HLQ.out w1).mono ?_;rintro e w2 ⟨rfl,hb2⟩;have hb2':Below w1.heap.size w1 w2:=Below.trans ((Kp.refl w1).alloc (.cells #[.bool an,.slice pA pk pc,.bool an',.slice pB pj pd] 42)) (hb2.mono (by simp));have HB2:=Hj (HB1.out.trans (hb2'.mono HB1.out.size));have HBX2:=Hj (HBX1.out.below hb2' HBX1.out.lt);obtain ⟨f0,f1,f2,f3,-,-,-,-⟩:=HBX2.out.four;clear hb2 hb2' HB1 HBX1 HLQ
 go_wp2_with fail
 refine (TG.out w2 HB2.out).mono ?_;rintro e w3 ⟨I,ic,rfl,hI,hb3⟩;have HB3:=Hj (HB2.out.trans (hb3.mono HB2.out.size));have HBX3:=Hj (HBX2.out.below hb3 HBX2.out.lt);have HIN:=Hj hI;clear hb3 HB2 HBX2 hI f0 f1 f2 f3;obtain ⟨f0,f1,f2,f3,-,-,-,-⟩:=HBX3.out.four
 go_wp2_with fail
 refine held_at (W:=w3) (C:=fun w'=>w'.cell? ⟨w.heap.size,0,none⟩=some (.bool an)∧w'.cell? ⟨w.heap.size,1,none⟩=some (.slice pA pk pc)∧w'.cell? ⟨w.heap.size,2,none⟩=some (.bool an')∧w'.cell? ⟨w.heap.size,3,none⟩=some (.slice pB pj pd)) (fun w' hk=>⟨(Kp.blk hk HBX3.out).cell 0,(Kp.blk hk HBX3.out).cell 1,(Kp.blk hk HBX3.out).cell 2,(Kp.blk hk HBX3.out).cell 3⟩) (Kp.refl w3) (fun HS hH0=>?_);refine tq 0 ?_;refine tq 2 ?_;refine rd1 1 fun K hK=>?_
 (try simp only [p1,p2,p3])
 go_simp;have hk:=And.right ‹_∧Kp w3 _›;refine (TT.out _ (HIN.out.below hk)).mono ?_;rintro e v1 ⟨T1,t1,rfl,hT,hbx⟩;have hp:Kp w3 v1:=Kp.trans hk hbx
 (try replace hb12:=Blk.below hb12 hbx hb12.lt)
 clear hk hbx
 (try (go_wp2_with fail))
 refine hK.out _ _ (HS.out _ hp) fun hH1=>?_;clear hK K hH0
 (try simp only [Act.put,p1,p2,p3,p4,p5,p6])
 refine rd1 3 fun K hK=>?_
 (try simp only [p1,p2,p3])
 go_simp;have hk:=And.right ‹_∧Kp w3 _›;refine (TRS.out _ (HB3.out.trans (Below.mono hk HB3.out.size)) _ _ hT).mono ?_;rintro e v2 ⟨X,xc,rfl,hX,hbx⟩;have hp:Kp w3 v2:=Kp.trans hk hbx;clear hk hbx hT
 (try (go_wp2_with fail))
 refine hK.out _ _ (HS.out _ hp) fun hH2=>?_;clear hK K hH1
 (try simp only [Act.put,p1,p2,p3,p4,p5,p6])
 refine tq 4 ?_;refine tq 5 ?_;refine tq 6 ?_;refine tq 7 ?_;refine tq 8 ?_;refine wpAnyH_done (by kernel_rfl) ?_ _;clear hH2 HS;have HIN4:=Hj (HIN.out.below hp);have HBX4:=Hj (Kp.blk hp HBX3.out);have HB4:=Hj (HB3.out.trans (Below.mono hp HB3.out.size));have HWA:=Hj hX;clear hp hX HIN HBX3 HB3 TRS
 go_wp2_with fail
 apply join_at
 case h =>
  intro key;refine held_at (W:=v2) (C:=fun w'=>w'.cell? ⟨w.heap.size,0,none⟩=some (.bool an)∧w'.cell? ⟨w.heap.size,1,none⟩=some (.slice pA pk pc)∧w'.cell? ⟨w.heap.size,2,none⟩=some (.bool an')∧w'.cell? ⟨w.heap.size,3,none⟩=some (.slice pB pj pd)) (fun w' hk=>⟨(Kp.blk hk HBX4.out).cell 0,(Kp.blk hk HBX4.out).cell 1,(Kp.blk hk HBX4.out).cell 2,(Kp.blk hk HBX4.out).cell 3⟩) (Kp.refl v2) (fun HS hH0=>?_);refine tq 0 ?_;refine tq 2 ?_;refine rd2 1 7 (fun K hK=>?_) (fun K hK=>?_)
  ·(try simp only [p1,p2,p3])
   go_simp;have hk:=And.right ‹_∧Kp v2 _›;refine (TT.out _ (HIN4.out.below hk)).mono ?_;rintro e v6 ⟨T1,t1,rfl,hT,hbx⟩;have hp:Kp v2 v6:=Kp.trans hk hbx
   (try replace hb12:=Blk.below hb12 hbx hb12.lt)
   clear hk hbx
   (try (go_wp2_with fail))
   refine hK.out _ _ (HS.out _ hp) fun hH3=>?_;clear hK K hH0
   (try simp only [Act.put,p1,p2,p3,p4,p5,p6])
   refine rd2 3 7 (fun K hK=>?_) (fun K hK=>?_)
   ·(try simp only [p1,p2,p3])
    go_simp;have hk:=And.right ‹_∧Kp v2 _›;refine (TRC.out _ (HB4.out.trans (Below.mono hk HB4.out.size)) _ _ (by first|exact hT|exact LsAt.below hT ((Kp.refl v6).alloc _))).mono ?_;rintro e v7 ⟨A1,k1,c1,A2,k2,d2,rfl,hr7,hbx⟩;have hp:=Kp.trans hk hbx;have r2q:RQ v7 cv A1 k1 c1 A2 k2 d2:=hr7
    (try replace hb12:=Blk.below hb12 hbx hb12.lt)
    clear hk hbx hr7 hT
    (try (go_wp2_with fail))
    refine hK.out _ _ (HS.out _ hp) fun hH4=>?_;clear hK K hH3
    (try simp only [Act.put,p1,p2,p3,p4,p5,p6])
    refine tq 4 ?_;refine tq 5 ?_;refine tq 6 ?_;refine rd1 7 fun K hK=>?_
    (try simp only [p1,p2,p3])
    go_simp;have hk:=And.right ‹_∧Kp v2 _›;have hg12:=Below.size hk;have hb12:=blk_hereS hk 42 #[.bool false,.slice none 0 0,.bool false,.slice none 0 0]
    (try simp only [sz_drewS] at hb12 hg12)
    refine hK.out _ _ (by first|exact HS.out _ (Kp.alloc hk _)|exact HS.out _ (Kp.drew (Kp.alloc (Kp.refl v2) _))) fun hH5=>?_;clear hK K hH4
    (try simp only [Act.put,p1,p2,p3,p4,p5,p6])
    refine rd1 8 fun K hK=>?_;have hk:=And.right ‹_∧Kp v2 _›;obtain ⟨_,_,_,_,i0,i1',i2',i3⟩:=hb12.four
    (try simp only [p1,p2,p3])
    go_simp;refine hK.out _ _ (by first|exact HS.out _ (Kp.alloc hp _)|exact HS.out _ (kp_set4 hk hg12 _ _ _ _)) fun hH6=>?_;clear hK K hH5
    (try simp only [Act.put,p1,p2,p3,p4,p5,p6])
    refine tq 9 ?_;refine wpAnyH_done (by kernel_rfl) ?_ _;clear hH6;have hkY:=Kp.alloc hp (.cells #[.bool (decide (cv.num<0)),.slice A1 k1 c1,.bool false,.slice A2 k2 d2] 42);have hbY:=Blk.new v7 42 #[.bool (decide (cv.num<0)),.slice A1 k1 c1,.bool false,.slice A2 k2 d2];have hqY:=WQ.below r2q ((Kp.refl v7).alloc (.cells #[.bool (decide (cv.num<0)),.slice A1 k1 c1,.bool false,.slice A2 k2 d2] 42));clear hk hp hb12 hg12 i0 i1' i2' i3 r2q;generalize v7.alloc (.cells #[.bool (decide (cv.num<0)),.slice A1 k1 c1,.bool false,.slice A2 k2 d2] 42)=Y at *;generalize v7.heap.size=gx at hbY ⊢;revert hqY;revert hbY;revert hkY;revert d2;revert k2;revert A2;revert c1;revert k1;revert A1;revert t1;revert T1;revert gx;revert Y;exact key.out
   ·(try simp only [p1,p2,p3])
    go_simp;have hk:=And.right ‹_∧Kp v2 _›;have hg12:=Below.size hk;have hb12:=blk_hereS hk 42 #[.bool false,.slice none 0 0,.bool false,.slice none 0 0]
    (try simp only [sz_drewS] at hb12 hg12)
    refine hK.out _ _ (by first|exact HS.out _ (Kp.alloc hk _)|exact HS.out _ (Kp.drew (Kp.alloc (Kp.refl v2) _))) fun hH7=>?_;clear hK K hH3
    (try simp only [Act.put,p1,p2,p3,p4,p5,p6])
    refine rd1 3 fun K hK=>?_
    (try simp only [p1,p2,p3])
    go_simp;have hk:=And.right ‹_∧Kp v2 _›;refine (TRC.out _ (HB4.out.trans (Below.mono hk HB4.out.size)) _ _ (by first|exact hT|exact LsAt.below hT ((Kp.refl v6).alloc _))).mono ?_;rintro e v7 ⟨A1,k1,c1,A2,k2,d2,rfl,hr7,hbx⟩;have hp:=Kp.trans hk hbx;have r2q:RQ v7 cv A1 k1 c1 A2 k2 d2:=hr7
    (try replace hb12:=Blk.below hb12 hbx hb12.lt)
    clear hk hbx hr7 hT
    (try (go_wp2_with fail))
    refine hK.out _ _ (HS.out _ hp) fun hH8=>?_;clear hK K hH7
    (try simp only [Act.put,p1,p2,p3,p4,p5,p6])
    refine tq 4 ?_;refine tq 5 ?_;refine tq 6 ?_;refine rd1 8 fun K hK=>?_;have hk:=And.right ‹_∧Kp v2 _›;obtain ⟨_,_,_,_,i0,i1',i2',i3⟩:=hb12.four
    (try simp only [p1,p2,p3])
    go_simp;refine hK.out _ _ (by first|exact HS.out _ (Kp.alloc hp _)|exact HS.out _ (kp_set4 hk hg12 _ _ _ _)) fun hH9=>?_;clear hK K hH8
    (try simp only [Act.put,p1,p2,p3,p4,p5,p6])
    refine tq 9 ?_;refine wpAnyH_done (by kernel_rfl) ?_ _;clear hH9;have hkY:=kp_set4 hp hg12 (.bool (decide (cv.num<0))) (.slice A1 k1 c1) (.bool false) (.slice A2 k2 d2);have hbY:=(show Blk (qst v7 v6.heap.size 0 (decide (cv.num<0)) false A1 A2 k1 c1 k2 d2) v6.heap.size 42 #[.bool (decide (cv.num<0)),.slice A1 k1 c1,.bool false,.slice A2 k2 d2] from hb12.put4);have hqY:=WQ.put4 (o:=0) (a:=decide (cv.num<0)) (b:=false) (B:=A1) (B':=A2) (j:=k1) (d:=c1) (j':=k2) (d':=d2) r2q hb12 NoInt.four;simp only [qst,Nat.zero_add] at hbY hqY;clear hk hp hb12 hg12 i0 i1' i2' i3 r2q;generalize (((v7.setCell ⟨v6.heap.size,0,none⟩ (.bool (decide (cv.num<0)))).setCell ⟨v6.heap.size,1,none⟩ (.slice A1 k1 c1)).setCell ⟨v6.heap.size,2,none⟩ (.bool false)).setCell ⟨v6.heap.size,3,none⟩ (.slice A2 k2 d2)=Y at *;generalize hgxe:v6.heap.size=gx at hbY ⊢;clear hgxe;revert hqY;revert hbY;revert hkY;revert d2;revert k2;revert A2;revert c1;revert k1;revert A1;revert t1;revert T1;revert gx;revert Y;exact key.out
  ·(try simp only [p1,p2,p3])
   go_simp;have hk:=And.right ‹_∧Kp v2 _›;have hg12:=Below.size hk;have hb12:=blk_hereS hk 42 #[.bool false,.slice none 0 0,.bool false,.slice none 0 0]
   (try simp only [sz_drewS] at hb12 hg12)
   refine hK.out _ _ (by first|exact HS.out _ (Kp.alloc hk _)|exact HS.out _ (Kp.drew (Kp.alloc (Kp.refl v2) _))) fun hH10=>?_;clear hK K hH0
   (try simp only [Act.put,p1,p2,p3,p4,p5,p6])
   refine rd1 1 fun K hK=>?_
   (try simp only [p1,p2,p3])
   go_simp;have hk:=And.right ‹_∧Kp v2 _›;refine (TT.out _ (HIN4.out.below hk)).mono ?_;rintro e v6 ⟨T1,t1,rfl,hT,hbx⟩;have hp:Kp v2 v6:=Kp.trans hk hbx
   (try replace hb12:=Blk.below hb12 hbx hb12.lt)
   clear hk hbx
   (try (go_wp2_with fail))
   refine hK.out _ _ (HS.out _ hp) fun hH11=>?_;clear hK K hH10
   (try simp only [Act.put,p1,p2,p3,p4,p5,p6])
   refine rd1 3 fun K hK=>?_
   (try simp only [p1,p2,p3])
   go_simp;have hk:=And.right ‹_∧Kp v2 _›;refine (TRC.out _ (HB4.out.trans (Below.mono hk HB4.out.size)) _ _ (by first|exact hT|exact LsAt.below hT ((Kp.refl v6).alloc _))).mono ?_;rintro e v7 ⟨A1,k1,c1,A2,k2,d2,rfl,hr7,hbx⟩;have hp:=Kp.trans hk hbx;have r2q:RQ v7 cv A1 k1 c1 A2 k2 d2:=hr7
   (try replace hb12:=Blk.below hb12 hbx hb12.lt)
   clear hk hbx hr7 hT
   (try (go_wp2_with fail))
   refine hK.out _ _ (HS.out _ hp) fun hH12=>?_;clear hK K hH11
   (try simp only [Act.put,p1,p2,p3,p4,p5,p6])
   refine tq 4 ?_;refine tq 5 ?_;refine tq 6 ?_;refine rd1 8 fun K hK=>?_;have hk:=And.right ‹_∧Kp v2 _›;obtain ⟨_,_,_,_,i0,i1',i2',i3⟩:=hb12.four
   (try simp only [p1,p2,p3])
   go_simp;refine hK.out _ _ (by first|exact HS.out _ (Kp.alloc hp _)|exact HS.out _ (kp_set4 hk hg12 _ _ _ _)) fun hH13=>?_;clear hK K hH12
   (try simp only [Act.put,p1,p2,p3,p4,p5,p6])
   refine tq 9 ?_;refine wpAnyH_done (by kernel_rfl) ?_ _;clear hH13;have hkY:=kp_set4 hp hg12 (.bool (decide (cv.num<0))) (.slice A1 k1 c1) (.bool false) (.slice A2 k2 d2);have hbY:=(show Blk (qst v7 v2.heap.size 0 (decide (cv.num<0)) false A1 A2 k1 c1 k2 d2) v2.heap.size 42 #[.bool (decide (cv.num<0)),.slice A1 k1 c1,.bool false,.slice A2 k2 d2] from hb12.put4);have hqY:=WQ.put4 (o:=0) (a:=decide (cv.num<0)) (b:=false) (B:=A1) (B':=A2) (j:=k1) (d:=c1) (j':=k2) (d':=d2) r2q hb12 NoInt.four;simp only [qst,Nat.zero_add] at hbY hqY;clear hk hp hb12 hg12 i0 i1' i2' i3 r2q;generalize (((v7.setCell ⟨v2.heap.size,0,none⟩ (.bool (decide (cv.num<0)))).setCell ⟨v2.heap.size,1,none⟩ (.slice A1 k1 c1)).setCell ⟨v2.heap.size,2,none⟩ (.bool false)).setCell ⟨v2.heap.size,3,none⟩ (.slice A2 k2 d2)=Y at *;generalize hgxe:v2.heap.size=gx at hbY ⊢;clear hgxe;revert hqY;revert hbY;revert hkY;revert d2;revert k2;revert A2;revert c1;revert k1;revert A1;revert t1;revert T1;revert gx;revert Y;exact key.out
 case k =>
  intro Y gx T1 t1 A1 k1 c1 A2 k2 d2 hkY hbY hqY;have HI:=Hj (HIN4.out.below hkY);have HX:=Hj (Kp.blk hkY HBX4.out);have HW:=Hj (HWA.out.below hkY);have HM:=Hj (And.intro hbY hqY);have HBY:=Hj (HB4.out.trans (Below.mono hkY HB4.out.size));clear hkY hbY hqY HIN4 HBX4 HWA HB4 TRC f0 f1 f2 f3;have n1:(ck != ck)=false:=by simp
  have n2:(tt != tt)=false:=by simp
  have n3:(x != x)=false:=by simp
  have K0:=Kp.refl Y
  go_wp2_with fail
  refine (TC1.out Y HI.out).mono ?_;rintro e u1 ⟨rfl,hb⟩;have HK1:=Hj (show Kp Y u1 from hb);clear hb
  go_wp2_with fail
  refine (TT.out u1 (HI.out.below HK1.out)).mono ?_;rintro e u2 ⟨T2,t2,rfl,hT,hb⟩;have HK2:=Hj (Kp.trans HK1.out hb);have HT:=Hj hT;clear hT;clear hb
  go_wp2_with fail
  refine (TC2.out u2 _ _ HT.out).mono ?_;rintro e u3 ⟨rfl,hb⟩;have HK3:=Hj (Kp.trans HK2.out hb);clear HT;clear hb
  go_wp2_with fail
  refine (TT1.out u3 (HI.out.below HK3.out)).mono ?_;rintro e u4 ⟨rfl,hb⟩;have HK4:=Hj (Kp.trans HK3.out hb);clear hb
  go_wp2_with fail
  refine (TT.out u4 (HI.out.below HK4.out)).mono ?_;rintro e u5 ⟨T3,t3,rfl,hT,hb⟩;have HK5:=Hj (Kp.trans HK4.out hb);have HT:=Hj hT;clear hT;clear hb
  go_wp2_with fail
  refine (TT2.out u5 _ _ HT.out).mono ?_;rintro e u6 ⟨rfl,hb⟩;have HK6:=Hj (Kp.trans HK5.out hb);clear HT;clear hb
  go_wp2_with fail
  have HI6:=Hj (HI.out.below HK6.out);have HX6:=Hj (Kp.blk HK6.out HX.out);have HW6:=Hj (HW.out.below HK6.out);have HM6:=Hj (And.intro (Kp.blk HK6.out HM.out.1) (HM.out.2.below HK6.out));have HB6:=Hj (HBY.out.trans (Below.mono HK6.out HBY.out.size));clear HK1 HK2 HK3 HK4 HK5 HK6 HI HX HW HM HBY K0 TC1 TC2 TT1 TT2
  go_loopw [10] (fun t wr=>∃ r:Nat,r≤2∧t=.int .i64 r∧Hid (Below u6.heap.size u6 wr)) (fun t _=>2-(intOf t).toNat)
  case atStart=>exact ⟨0,by omega,rfl,Hj (Below.refl _ _)⟩
  case round =>
   obtain ⟨r,hr,rfl,hB⟩:=hrel;obtain ⟨wv,rfl⟩:∃ v,v=wr:=⟨_,rfl⟩;by_cases hlt:r<2
   ·have d0:decide ((r:Int)<2)=true:=by simp;omega
    have i9:IntKind.i64.wrap ((r:Int)+1)=((r+1:Nat):Int):=IntWalk.i64_in _ (by omega);obtain ⟨f0,f1,f2,f3,-,-,-,-⟩:=(Kp.blk hB.out HX6.out).four
    go_wp2_with fail
    refine (TPS.out wv (HB6.out.trans (Below.mono hB.out HB6.out.size)) (HI6.out.below hB.out)).mono ?_;rintro e y1 ⟨X1,xc1,rfl,hX1,hF1,hb1⟩;have HX1:=Hj hX1;have HF1:=Hj hF1;have HK1:=Hj (show Below wv.heap.size wv y1 from hb1);have HU1:=Hj (hB.out.trans (Below.mono hb1 hB.out.size));clear f0 f1 f2 f3 hX1 hF1 hb1;obtain ⟨f0,f1,f2,f3,-,-,-,-⟩:=(Kp.blk HU1.out HX6.out).four
    go_wp2_with fail
    refine (TPC.out y1 (HB6.out.trans (Below.mono HU1.out HB6.out.size)) (HI6.out.below HU1.out)).mono ?_;rintro e y2 ⟨B1,j1,d1,B2,j2,e2,rfl,hr2,hb2⟩;have ka:=(Kp.refl y2).alloc (.cells #[.bool (decide (cv.num<0)),.slice B1 j1 d1,.bool false,.slice B2 j2 e2] 42);have hk2:Below wv.heap.size wv (y2.alloc (.cells #[.bool (decide (cv.num<0)),.slice B1 j1 d1,.bool false,.slice B2 j2 e2] 42)):=Below.trans (Below.trans HK1.out (Below.mono hb2 (Below.size HK1.out))) (Below.mono ka (Below.size (Below.trans HK1.out (Below.mono hb2 (Below.size HK1.out)))));have HK2:=Hj hk2;have HX2:=Hj ((HX1.out.below hb2).below ka);have HF2:=Hj ((HF1.out.below hb2).below ka);have HC2:=Hj (And.intro (Blk.new y2 42 #[.bool (decide (cv.num<0)),.slice B1 j1 d1,.bool false,.slice B2 j2 e2]) (hr2.below ka));clear f0 f1 f2 f3 hr2 hb2 ka hk2 HX1 HF1 HK1 HU1
    go_wp2_with fail
    generalize y2.alloc (.cells #[.bool (decide (cv.num<0)),.slice B1 j1 d1,.bool false,.slice B2 j2 e2] 42)=Y2 at *;generalize y2.heap.size=gc at *;have HU2:=Hj (hB.out.trans (Below.mono HK2.out hB.out.size));refine (rrows_yes X1 X nn xc1 xc ps Y2 HX2.out (HW6.out.below HU2.out) HNN.out HPZ.out).mono ?_;rintro e y3 ⟨rfl,hb3⟩;have HK3:=Hj (HK2.out.trans (Below.mono hb3 (Below.size HK2.out)));have HU3:=Hj (HU2.out.trans (Below.mono hb3 HU2.out.size));have HF3:=Hj (HF2.out.below hb3);have HC3:=Hj (And.intro (Kp.blk hb3 HC2.out.1) (HC2.out.2.below hb3));clear hb3 HK2 HU2 HF2 HX2 HC2;obtain ⟨c0,c1',c2',c3,-,-,-,-⟩:=HC3.out.1.four;obtain ⟨m0,m1,m2,m3,-,-,-,-⟩:=(Kp.blk HU3.out HM6.out.1).four
    go_wp2_with fail
    refine (is_wq9 (by decide) HCZ.out HC3.out.2 (HM6.out.2.below HU3.out)).mono ?_;rintro e y4 ⟨rfl,hb4⟩;have HK4:=Hj (HK3.out.trans (Below.mono hb4 (Below.size HK3.out)));have HF4:=Hj (HF3.out.below hb4);have HSZ:=Hj hB;clear hb4 HK3 HU3 HF3 HC3 c0 c1' c2' c3 m0 m1 m2 m3
    go_wp2_with fail
    go_loopw [15] (fun t wx=>∃ i:Nat,i≤nn∧t=.int .i64 i∧Hid (Below wv.heap.size wv wx∧FrX wv.heap.size wx X1 nn)) (fun t _=>nn-(intOf t).toNat)
    case atStart=>exact ⟨0,Nat.zero_le _,rfl,Hj ⟨HK4.out,HF4.out⟩⟩
    case round =>
     obtain ⟨i,hi,rfl,hX⟩:=hrel;clear HK4 HF4;have hnn9:=HNN.out;by_cases hlt2:i<nn
     ·obtain ⟨x1,x2⟩:=hX.out;obtain ⟨g,rfl,hg,x3⟩:=x2.resolve_left (by omega);obtain ⟨a,A5,k,c5,a',A6,k',c6,-,x4,-,-,-,-,-,-,-,-,x5,-⟩:=x3.cells hlt2;have HS:=Hj (show SpJ wv g nn i A5 k c5 wr from ⟨x1,x3,x4,x5⟩);have HG:=Hj hg;have hki1:(0:Int)≤(i:Int):=by omega
      have hki2:(i:Int)<(nn:Int):=by omega
      have i8:IntKind.i64.wrap ((i:Int)+1)=((i+1:Nat):Int):=IntWalk.i64_in _ (by omega);clear hX x1 x2 x3 x4 x5 hg
      go_wp2_with fail
      obtain ⟨wq,rfl⟩:∃ v,v=wr:=⟨_,rfl⟩
      go_loopw [16] (fun t wy=>∃ j:Nat,j≤k∧t=.int .i64 j∧Hid (SpJ wv g nn i A5 k c5 wy)) (fun t _=>k-(intOf t).toNat)
      case atStart=>exact ⟨0,Nat.zero_le _,rfl,HS⟩
      case round =>
       obtain ⟨j,hj,rfl,hY⟩:=hrel;have hY':=hY.out;obtain ⟨y1',y2',y3',y4'⟩:=hY.out;have hk9:k≤1000000000000:=y4'.1;by_cases hjk:j<k
       ·obtain ⟨b9,o9,rfl,hb1,hb2,hb3,hb4⟩:=y4'.2 (by omega);obtain ⟨⟨v9,hv9⟩,hfz⟩:=hb4 j hjk;have i1:IntKind.i64.wrap ((j:Int)+1)=((j+1:Nat):Int):=IntWalk.i64_in _ (by omega);have hj1:(0:Int)≤(j:Int):=by omega
        have hj2:(j:Int)<(k:Int):=by omega
        have HN:=Hj (SpJ.put hY' (o:=o9+j) (v:=.int .u32 7) hb1 hb2);clear hY hY' y1' y2' y4' hb1 hb2 hb3 hb4 HS;go_wp2;go_roundw
        case rel=>exact ⟨j+1,by omega,by first|rfl|go_num,HN⟩
        case measure=>simp [intOf];omega
       ·obtain rfl:k=j:=by omega
        obtain ⟨_,_,_,_,_,_,_,_,e0,-,e2,e3,q0,q1,q2,q3,-⟩:=y2'.cells hlt2;have HN:=Hj (show ∀ w',w'=qst wr g (i*4) false false none none 0 0 0 0→Below wv.heap.size wv w'∧FrX wv.heap.size w' (some ⟨g,0,none⟩) nn from fun w' hw=>by subst hw;exact ⟨below_qst y1' HG.out,.inr ⟨g,rfl,HG.out,y2'.put hlt2 (Nat.le_refl _) (Nat.le_refl _) Wr.nil Wr.nil⟩⟩);clear hY hY' y1' y2' y4' hk9 hj HS
        go_wp2_with fail
        have e8:(((wr.setCell ⟨g,i*4,none⟩ (.bool false)).setCell ⟨g,i*4+1,none⟩ (.slice none 0 0)).setCell ⟨g,i*4+2,none⟩ (.bool false)).setCell ⟨g,i*4+3,none⟩ (.slice none 0 0)=qst wr g (i*4) false false none none 0 0 0 0:=rfl
        try rw [e8]
        have HF:=Hj (HN.out _ rfl);clear HN;go_roundw
        case rel=>exact ⟨i+1,by omega,by first|rfl|go_num,HF⟩
        case measure=>simp [intOf];omega
     ·obtain rfl:i=nn:=by omega
      have HF:=Hj (hB.out.trans (Below.mono hX.out.1 hB.out.size));clear hX;go_wp2;go_roundw
      case rel=>exact ⟨r+1,by omega,by first|rfl|go_num,HF⟩
      case measure=>simp [intOf];omega
   ·have d0:decide ((r:Int)<2)=false:=by simp;omega
    have HBV:=Hj (HB6.out.trans (Below.mono hB.out HB6.out.size));have HIV:=Hj (HI6.out.below hB.out);clear hB hr hlt HI6 HX6 HW6 HM6 HB6
    go_wp2_with fail
    refine (TT.out wv HIV.out).mono ?_;rintro e z1 ⟨S1,s1,rfl,hS1,hb1⟩;have HB1:=Hj (HBV.out.trans (Below.mono hb1 HBV.out.size));have HS1:=Hj hS1;clear hS1 hb1 HBV HIV
    go_wp2_with fail
    refine (TG.out z1 HB1.out).mono ?_;rintro e z2 ⟨S2,s2,rfl,hS2,hb2⟩;have HB2:=Hj (HB1.out.trans (Below.mono hb2 HB1.out.size));have HS2:=Hj (HS1.out.below hb2);have HG2:=Hj hS2;clear hS2 hb2 HB1 HS1
    go_wp2_with fail
    refine (TT.out z2 HG2.out).mono ?_;rintro e z3 ⟨S3,s3,rfl,hS3,hb3⟩;have HB3:=Hj (HB2.out.trans (Below.mono hb3 HB2.out.size));have HS3:=Hj (And.intro (HS2.out.below hb3) hS3);clear hS3 hb3 HB2 HS2 HG2
    go_wp2_with fail
    refine (TSM.out z3 _ _ _ _ HS3.out.1 HS3.out.2).mono ?_;rintro e z4 ⟨rfl,hb4⟩;have HB4:=Hj (HB3.out.trans (Below.mono hb4 HB3.out.size));clear hb4 HB3 HS3
    go_wp2_with fail
    refine (HAW.out _).mono ?_;rintro e wz ⟨rfl,hbz⟩;have HBZ:=Hj (HB4.out.trans (hbz.mono HB4.out.size));clear hbz;go_wp2;go_ret;exact ⟨rfl,HBZ.out⟩
end Go.Proofs.YtjajigkacccdgaaGreat
namespace Go.Proofs.YtjajigkacccdgaaGreat
open Go.ChangeShapes Go.WideShapes Go.ChangeAt Go.RowKit Go.Deep
open Wd
theorem cells_ints:Tryz.prog.cellsOf 62 = 1:=by kernel_rfl
theorem cells_level:Tryz.prog.cellsOf 108 = 3:=by kernel_rfl
section
variable {H:Type} {enc:TypeId×Value→H} {W:World}
theorem ls_of {fuel:Nat} {cs:List Value} {x:DataW H×List MemPlace} (h:DataW.trod enc Tryz.prog W 0 (fun _=>true) true fuel 37 cs=some x):∃ A n c lv,cs=[.slice A n c]∧LsAt W A n lv:=by
 rcases open_slice Tryz.underlying37 h with ⟨rfl,_⟩|⟨a,len,cap,m,n,D,Pl,rfl,_,hl,_,hmm,_,hi⟩
 ·exact ⟨none,0,0,[],rfl,rfl,fun h=>absurd rfl h⟩
 ·simp only [if_true] at hmm;have each:∀ i,i<len→∃ u:St.Lv,∃ A' c',(W.cell? (a.add (i*3))=some (.int .i64 u.1)∧W.cell? (a.add (i*3+1))=some (.int .i64 u.2.1)∧W.cell? (a.add (i*3+2))=some (.slice A' u.2.2.length c'))∧IsAt W A' u.2.2.length u.2.2:=by
   intro i hil;obtain ⟨cs',hc,ht⟩:=hi i (by omega);rw [cells_level] at hc;obtain ⟨xs,k,_,_,_,hxl,hf⟩:=DataW.trod_struct Tryz.underlying108 ht;have hxl2:xs.length=3:=hxl;obtain ⟨_,hcl,hcell⟩:=World.cells?_some hc;obtain ⟨z0,h0,_⟩:=field_int (t:=2) (o:=0) (j:=0) Tryz.underlying2 cells_int64 (by omega) (hf 0 _ rfl);obtain ⟨z1,h1,_⟩:=field_int (t:=2) (o:=1) (j:=1) Tryz.underlying2 cells_int64 (by omega) (hf 1 _ rfl);have hs:DataW.trod enc Tryz.prog W 0 (fun _=>true) true k 62 ((cs'.drop 2).take (Tryz.prog.cellsOf 62))=xs[2]?:=hf 2 _ rfl;rw [cells_ints,List.getElem?_eq_getElem (by omega)] at hs;obtain ⟨A',n',c',l,hl',hst,-⟩:=is_of hs;have h2:=drop_one hl';obtain rfl:l.length=n':=hst.1;refine ⟨⟨z0,z1,l⟩,A',c',⟨?_,?_,?_⟩,hst⟩
   ·have:=hcell 0 (by omega);rw [h0] at this;exact this
   ·have:=hcell 1 (by omega);rw [h1] at this;rw [← add_add];exact this
   ·have:=hcell 2 (by omega);rw [h2] at this;rw [← add_add];exact this
  obtain ⟨F,hF⟩:=choose_lt each;refine ⟨some a,len,cap,(List.range len).map F,rfl,by simp,fun hn=>?_⟩;obtain ⟨_,_,⟨h0,_⟩,_⟩:=hF 0 (by omega);obtain ⟨e,hb⟩:=plain_addr h0;have hsp:a.spot=none:=by have:=congrArg Addr.spot e;simpa [Addr.add] using this
  have ea:a=⟨a.block,a.off,none⟩:=by obtain ⟨b,o,s⟩:=a;simp only at hsp ⊢;rw [hsp]
  refine ⟨a.block,a.off,by rw [← ea],by simpa [Addr.add] using hb,fun j hj=>?_⟩;have e1:((List.range len).map F)[j]?.getD Lv0=F j:=by simp [hj]
  obtain ⟨A',c',⟨c0,c1,c2⟩,hs⟩:=hF j hj;rw [ea,addr_plus] at c0 c1 c2;rw [e1];exact ⟨A',c',⟨c0,c1,c2⟩,hs⟩
end
end Go.Proofs.YtjajigkacccdgaaGreat
