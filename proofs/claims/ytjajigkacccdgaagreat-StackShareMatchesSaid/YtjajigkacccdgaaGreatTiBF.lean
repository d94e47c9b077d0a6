/-
Lemmas of the walk; no further conditions.
-/
import Derived.Test.YtjajigkacccdgaaGreatTiBE
set_option linter.unusedVariables false
set_option linter.unusedSimpArgs false
set_option maxRecDepth 100000
set_option maxHeartbeats 16000000
namespace Go.Proofs.YtjajigkacccdgaaGreat
open Go.RowKit
open Wd
theorem sz_drewS (w:World):w.drew.heap.size=w.heap.size:=rfl
theorem blk_hereS {V X:World} (h:Kp V X) (t:TypeId) (cs:Array Value):Blk (X.alloc (.cells cs t)) X.heap.size t cs:=Blk.new X t cs
theorem kcost_ls {s:Nat} (hs:3≤s) {up:Bool} {m n:Nat} {lv:List St.Lv} (hm:lv.length=m) (hv:VL up n lv) {q:Rat} (h0:0≤q) (hl:Ls s q):Ls (48*(s+6)+1) (costAt (lvQ lv) q m):=by
 have hp:=partAt_ls hs hv h0 hl;refine (costAt_ls (fun k hk=>(hp k (by rw [lvQ_len] at hk;exact hk)).2) (fun x hx=>by have:=hv.prQ x hx;omega) m (by rw [lvQ_len];omega)).mono ?_;have:=Nat.mul_le_mul_right (s+6) (show m≤48 by have:=hv.len;omega);omega
def RsO (w:World) (gs gl n:Nat) (ys:List Rat) (r:Rat) (wr:World):Prop:=Below w.heap.size w wr∧QRow wr gs n ys∧∃ A k c A' k' c',Blk wr gl 42 #[.bool (decide (r.num<0)),.slice A k c,.bool false,.slice A' k' c']∧RQ wr r A k c A' k' c'
theorem rshare_ok (up:Bool) (A:Option Addr) (m n c:Nat) (lv:List St.Lv) (w:World) (hs:LsAt w A m lv) (h:LvAt w A m n lv) (hv:VL up n lv) (an an':Bool) (aA aA':Option Addr) (ak ac ak' ac':Nat) (q:Rat) (hq:QS 7 w an aA ak ac an' aA' ak' ac' q) (hc:wrC lv q=0) (h0:0≤q) (hm0:m≠0) :
  Calls Tryz.prog 25 #[.slice A m c,.agg #[.bool an,.slice aA ak ac,.bool an',.slice aA' ak' ac']] w fun e w'=>∃ g,e=.returned (.tuple #[.slice (some ⟨g,0,none⟩) n n,.int .i64 0])∧QRow w' g n (qAll lv n q m)∧w.heap.size≤g∧Below w.heap.size w w':=by
 have hl:=h.1;have hm:m≤48:=by have:=hv.len;omega
 have hn1:1≤n:=hv.n0 (by omega);have hn16:=hv.n16;have hsz:=hq.ls;have TW:=Hj (fun W (hW:Below w.heap.size w W)=>(show Calls Tryz.prog 75 #[.slice A m c,.agg #[.bool an,.slice aA ak ac,.bool an',.slice aA' ak' ac']] W fun e w'=>e=.returned (.int .i64 0)∧Below W.heap.size W w' by rw [← hc];exact rwrong_any A m c lv W (hs.below hW) an an' aA aA' ak ac ak' ac' q (hq.below hW)));have TL:=Hj (fun W (hW:Below w.heap.size w W)=>rleastq_s (s:=7) (by decide) an an' aA aA' ak ac ak' ac' q W (hq.below hW));have HPB:=Hj (partAt_ls (s:=7) (by decide) hv h0 hsz);have HRB:=Hj (fun k (hk:k≤lv.length)=>restL_bd h0 hv.okQ hsz.1 hsz.2 k (by rw [lvQ_len];exact hk));have HL:=Hj h;have HV:=Hj hv;have HLN:=Hj hl;have hmk:=fun w=>run_make_Q n (by omega) w;clear h hv hq hl h0 hsz hs hc;go_enter Tryz.func25,Tryz.ntmps25
 go_wp2_with fail
 have hB0:=Blk.new w 42 #[.bool an,.slice aA ak ac,.bool an',.slice aA' ak' ac'];have hBW:Below w.heap.size w (w.alloc (.cells #[.bool an,.slice aA ak ac,.bool an',.slice aA' ak' ac'] 42)):=(Below.refl _ _).alloc (Nat.le_refl _) _;generalize w.alloc (.cells #[.bool an,.slice aA ak ac,.bool an',.slice aA' ak' ac'] 42)=W at *;obtain ⟨e0,e1,e2,e3,-⟩:=hB0.four;refine (TW.out W hBW).mono ?_;rintro e w1 ⟨rfl,hb1⟩;have hB1:=hB0.below hb1 hB0.lt;have HB1:=Hj (hBW.trans (hb1.mono hBW.size));clear e0 e1 e2 e3;obtain ⟨f0,f1,f2,f3,-⟩:=(hB1.alloc (.cells (madeCells qzero (n*4)) 42)).four;obtain ⟨b,o,rfl,hb,hcell⟩:=HL.out.2 hm0;obtain ⟨A0,c0,⟨-,-,z2⟩,-⟩:=hcell 0 (by omega);rw [Nat.zero_mul,Nat.add_zero] at z2;replace z2:=(HB1.out.cell (p:=⟨b,o+2,none⟩) hb).trans z2;have m0:(0:Int)<(m:Int):=by omega
 have mz:((m:Int) == 0)=false:=by simp;omega
 have HCL:=Hj hcell;have HLS:=Hj (HB1.out.alloc HB1.out.size (.cells (madeCells qzero (n*4)) 42));have HQR:=Hj (QRow.start w1 n);clear hBW hb1 hB0 hcell TW
 go_wp2_with fail
 refine (TL.out _ HLS.out).mono ?_;rintro e u1 ⟨F3,f3',g3,G3,i3,j3,rfl,hz1,hz2,hz3,hz4,hz5,hz6,hb1⟩;have hw1:Below w.heap.size w u1:=HLS.out.trans (hb1.mono HLS.out.size);have hqr:=HQR.out.below hb1;have hB7:=Blk.new u1 42 #[.bool (decide (q.num<0)),.slice F3 f3' g3,.bool false,.slice G3 i3 j3];have hxV:=(Kp.refl u1).alloc (.cells #[.bool (decide (q.num<0)),.slice F3 f3' g3,.bool false,.slice G3 i3 j3] 42);have hgs9:w1.heap.size<u1.heap.size:=by obtain ⟨_,cs,hbk,_⟩:=hqr;exact hbk.lt
 have HNE:=Hj (show w1.heap.size≠u1.heap.size by omega);have HGE:=Hj (And.intro HB1.out.size hw1.size);have HST:=Hj (show RsO w w1.heap.size u1.heap.size n (qAll lv n q 0) (restAt (lvQ lv) q 0) _ from ⟨hw1.trans (Below.mono hxV hw1.size),hqr.below hxV,F3,f3',g3,G3,i3,j3,hB7,RQ.below (show RQ u1 q F3 f3' g3 G3 i3 j3 from ⟨hz1,hz2,hz3,hz4⟩) hxV⟩);clear hz1 hz2 hz3 hz4 hz5 hz6 hb1 TL f0 f1 f2 f3 hB7 hxV hw1 hqr hB1 HB1 HLS HQR z2 hmk
 go_wp2_with fail
 generalize u1.alloc (.cells #[.bool (decide (q.num<0)),.slice F3 f3' g3,.bool false,.slice G3 i3 j3] 42)=V at *;generalize u1.heap.size=gl at *;generalize w1.heap.size=gs at *;clear hgs9
 go_loopw [9] (fun t wr=>∃ i:Nat,i≤m∧t=.int .i64 i∧Hid (RsO w gs gl n (qAll lv n q i) (restAt (lvQ lv) q i) wr)) (fun t _=>m-(intOf t).toNat)
 case atStart=>exact ⟨0,Nat.zero_le _,rfl,HST⟩
 case round =>
  clear HST;obtain ⟨i,hi,rfl,hR0⟩:=hrel;by_cases hlt:i<m
  ·obtain ⟨A2,c2,⟨-,-,y2⟩,hpt⟩:=HCL.out i hlt;replace y2:=(hR0.out.1.cell (p:=⟨b,o+i*3+2,none⟩) hb).trans y2;have hkl:i<lv.length:=by rw [HLN.out];exact hlt
   obtain ⟨hnn,hxl⟩:=HV.out.nn hkl;have hxb:=(HV.out.parts _ (getD_mem (d:=Lv0) hkl)).2;have hsum:=(HV.out.sum _ (getD_mem (d:=Lv0) hkl)).1;have hsa:qAll lv n q (i+1)=qRow (lv[i]?.getD Lv0).2.2 n (partAt (lvQ lv) q i) (qAll lv n q i) n:=rfl;have hpa:partAt (lvQ lv) q i=lessQ (restAt (lvQ lv) q i) (sumI (lv[i]?.getD Lv0).2.2):=by rw [partAt,lvQ_fst,hsum]
   have hra:restAt (lvQ lv) q (i+1)=restAt (lvQ lv) q i-lessQ (restAt (lvQ lv) q i) (sumI (lv[i]?.getD Lv0).2.2):=by rw [← hpa];rfl
   have hbd:=fun i2 (hi2:i2<n)=>qAll_ls (s:=7) (by decide) HV.out HPB.out (k:=i) (by omega) hi2;obtain ⟨rb0,rb1,rb2⟩:=HRB.out i (by omega);have hrls:Ls 7 (restAt (lvQ lv) q i):=⟨rb1,rb2⟩;have hyl:=qAll_len lv n q i;rw [hpa] at hsa;generalize hyne:qAll lv n q (i+1)=yn at *;generalize hrne:restAt (lvQ lv) q (i+1)=rn1 at *;have HYN:=Hj hyne;have HRNE:=Hj hrne;clear hyne hrne;generalize (lv[i]?.getD Lv0).2.2=xs at *;generalize qAll lv n q i=ys at *;generalize restAt (lvQ lv) q i=rr at *;have HSA:=Hj hsa;have HRA:=Hj hra;have HBD:=Hj hbd;have HYL:=Hj hyl;have HPT:=Hj hpt;have HXS:=Hj (And.intro hnn (And.intro hxl (And.intro hxb (And.intro rb0 hrls))));have hki1:(0:Int)≤(i:Int):=by omega
   have hki2:(i:Int)<(m:Int):=by omega
   have xn:IntKind.i64.wrap ((n:Int)-1)=(n:Int)-1:=IntWalk.i64_in _ (by omega);have HR:=Hj (show RsO w gs gl n (qRow xs n (lessQ rr (sumI xs)) ys 0) (lRest rr xs n 0) wr by rw [lRest_zero];exact hR0.out);have Y2:=Hj (fun W (hW:Below w.heap.size w W)=>(hW.cell (p:=⟨b,o+i*3+2,none⟩) hb).trans ((hR0.out.1.cell (p:=⟨b,o+i*3+2,none⟩) hb).symm.trans y2));clear hnn hxl hxb hsum hsa hpa hra hbd rb0 rb1 rb2 hrls hyl hpt hR0 hkl y2
   go_wp2_with fail
   obtain ⟨wv,rfl⟩:∃ v,v=wr:=⟨_,rfl⟩
   go_loopw [10] (fun tt wx=>∃ (j:Nat) (ci:Int),j≤n∧tt=.int .i64 ci∧Hid (ci=(n:Int)-1-(j:Int))∧Hid (RsO w gs gl n (qRow xs n (lessQ rr (sumI xs)) ys j) (lRest rr xs n j) wx)) (fun tt _=>(intOf tt+1).toNat)
   case atStart=>exact ⟨0,(n:Int)-1,Nat.zero_le _,rfl,Hj (by show (n:Int)-1=(n:Int)-1-((0:Nat):Int);omega),HR⟩
   case round =>
    clear HR;obtain ⟨j,ci,hj,rfl,hci,hR⟩:=hrel;by_cases hjn:j<n
    ·obtain ⟨cN,rfl⟩:∃ cN:Nat,ci=(cN:Int):=⟨n-1-j,by have:=hci.out;omega⟩;have hcn:n-1-j=cN:=by have:=hci.out;omega
     have hcl:cN<n:=by omega
     obtain ⟨hB,hRS,A5,k5,c5,A6,k6,c6,hbx,hqx⟩:=hR.out;obtain ⟨b5,o5,rfl,hb5,hc5⟩:=HPT.out.2 (by omega);have y2:=Y2.out wr hB;have cx:=(hB.cell (p:=⟨b5,o5+cN,none⟩) hb5).trans (hc5 cN hcl);have hxb:=HXS.out.2.2.1 _ (getD_mem (d:=0) (show cN<xs.length by rw [HXS.out.2.1];exact hcl));obtain ⟨lb1,lb2⟩:=lRest_ls HXS.out.1 HXS.out.2.1 HXS.out.2.2.2.1 HXS.out.2.2.2.2 j (by omega);have hlp:=lRest_part HXS.out.1 HXS.out.2.1 HXS.out.2.2.2.1 hjn;have hls:=lRest_step HXS.out.1 HXS.out.2.1 HXS.out.2.2.2.1 hjn;have hrowb:Ls (i*(7+1)+1) ((qRow xs n (lessQ rr (sumI xs)) ys j)[cN]?.getD 0):=by
      rw [qRow_get HYL.out j hj cN hcl,if_neg (by omega)];exact HBD.out cN hcl
     have hrw1:qRow xs n (lessQ rr (sumI xs)) ys (j+1)=(qRow xs n (lessQ rr (sumI xs)) ys j).set cN ((qRow xs n (lessQ rr (sumI xs)) ys j)[cN]?.getD 0+lessQ (lRest rr xs n j) (xs[cN]?.getD 0)):=by rw [qRow,← hlp,hcn]
     rw [hcn] at hls;obtain ⟨R5,r5,s5,R6,r6,s6,s0,s1,s2,s3,sf0,sf1,sf2,sf3,hk6,hk7,hW6,hW7⟩:=hRS.cells hcl;generalize hrne:qRow xs n (lessQ rr (sumI xs)) ys (j+1)=rn at *;generalize qRow xs n (lessQ rr (sumI xs)) ys j=ro at *;generalize hnqe:lRest rr xs n (j+1)=nq at *;have HRNE:=Hj hrne;have HNQE:=Hj hnqe;clear hrne hnqe;generalize lRest rr xs n j=lq at *;generalize xs[cN]?.getD 0=x at *;generalize ro[cN]?.getD 0=yq at *;have hmx:=lessQ_ls (s:=7) (by decide) lb2 (a:=x) (by omega);have hix:i*(7+1)+1≤500:=by omega
     have hxl:Ls 7 ((x:Int):Rat):=ls_int (by decide) (by omega);have TI:=Hj (fun W=>rint_any x W (by omega) (by omega));have TM:=Hj (fun (W:World) (hW:Kp wr W) (R R':Option Addr) (k d k' d':Nat) (hh:RQ W ((x:Int):Rat) R k d R' k' d')=>(show Calls Tryz.prog 77 #[.agg #[.bool (decide (lq.num<0)),.slice A5 k5 c5,.bool false,.slice A6 k6 c6],.agg #[.bool (decide (((x:Int):Rat).num<0)),.slice R k d,.bool false,.slice R' k' d']] W (RetQ W (lessQ lq x)) from rminq_s (s:=7) (by decide) _ _ _ _ _ _ _ _ _ _ _ _ _ _ _ _ lq _ W ((hqx.below hW).qs lb2 (by decide)) (hh.qs hxl (by decide))));have TA0:=Hj (fun (W:World) (B2:Option Addr) (j2 d2:Nat) (B2':Option Addr) (j2' d2':Nat) (h1:RQ W yq R5 r5 s5 R6 r6 s6) (h2:RQ W (lessQ lq x) B2 j2 d2 B2' j2' d2')=>raddq_s (s:=500) (by decide) (decide (yq.num<0)) false (decide ((lessQ lq x).num<0)) false R5 R6 B2 B2' r5 s5 r6 s6 j2 d2 j2' d2' yq (lessQ lq x) W (h1.qs (hrowb.mono hix) (by decide)) (h2.qs (hmx.mono (by decide)) (by decide)));have TS0:=Hj (fun (W:World) (B2:Option Addr) (j2 d2:Nat) (B2':Option Addr) (j2' d2':Nat) (h1:RQ W lq A5 k5 c5 A6 k6 c6) (h2:RQ W (lessQ lq x) B2 j2 d2 B2' j2' d2')=>rsubq_s (s:=7) (by decide) (decide (lq.num<0)) false (decide ((lessQ lq x).num<0)) false A5 A6 B2 B2' k5 c5 k6 c6 j2 d2 j2' d2' lq (lessQ lq x) W (h1.qs lb2 (by decide)) (h2.qs hmx (by decide)));rw [← hls] at TS0;have HWY:=Hj (show RQ wr yq R5 r5 s5 R6 r6 s6 from ⟨hk6,hk7,hW6,hW7⟩);have HRN:=Hj hrw1;generalize yq+lessQ lq x=sq at *;generalize lessQ lq x=mq at *;generalize ((x:Int):Rat)=xq at *;have HBX:=Hj (And.intro hbx hqx);have HRS:=Hj hRS;have HBB:=Hj hB;have hgsr:gs<wr.heap.size:=by obtain ⟨_,cs,hbk,_⟩:=hRS;exact hbk.lt
     have hcI:Hid ((cN:Int)-1=(n:Int)-1-((j+1:Nat):Int)):=Hj (by omega);have d0:decide ((0:Int)≤(cN:Int))=true:=by simp
     have i1:(0:Int)≤(cN:Int):=by omega
     have i2:(cN:Int)<(n:Int):=by omega
     have hbr5:b5<wr.heap.size:=Nat.lt_of_lt_of_le hb5 hB.size;have hbr:b<wr.heap.size:=Nat.lt_of_lt_of_le hb hB.size;clear hci hR hB hRS hbx hqx hc5 hxb lb1 lb2 hlp hls hrowb hrw1 hk6 hk7 hW6 hW7 hmx hix hxl hcn sf0 sf1 sf2 sf3
     go_wp2_with fail
     apply join_at
     case h =>
      intro key;refine held_at (W:=wr) (C:=fun w'=>w'.cell? ⟨gl,0,none⟩=some (.bool (decide (lq.num<0)))∧w'.cell? ⟨gl,1,none⟩=some (.slice A5 k5 c5)∧w'.cell? ⟨gl,2,none⟩=some (.bool false)∧w'.cell? ⟨gl,3,none⟩=some (.slice A6 k6 c6)∧w'.cell? ⟨b,o+i*3+2,none⟩=some (.slice (some ⟨b5,o5,none⟩) n c2)∧w'.cell? ⟨b5,o5+cN,none⟩=some (.int .i64 x)) (fun w' hk=>⟨(Kp.blk hk HBX.out.1).cell 0,(Kp.blk hk HBX.out.1).cell 1,(Kp.blk hk HBX.out.1).cell 2,(Kp.blk hk HBX.out.1).cell 3,(Below.cell hk (p:=⟨b,_,none⟩) hbr).trans y2,(Below.cell hk (p:=⟨b5,_,none⟩) hbr5).trans cx⟩) (Kp.refl wr) (fun HS hH0=>?_);refine tq 0 ?_;refine tq 1 ?_;refine tq 2 ?_;refine tq 3 ?_;refine tq 4 ?_;refine tq 5 ?_;refine tq 6 ?_;refine tq 7 ?_;refine tq 8 ?_;refine rd2 9 11 (fun K hK=>?_) (fun K hK=>?_)
      ·(try simp only [p1,p2,p3])
       go_simp;have hk:=And.right ‹_∧Kp wr _›;refine (TI.out _).mono ?_;rintro e v6 ⟨N1,n1,n2,N2,n3,n4,rfl,hk9,hj9,hW9,hX9,-,-,hbx⟩;have hp:=Kp.trans hk hbx;have r1q:RQ v6 xq N1 n1 n2 N2 n3 n4:=⟨hk9,hj9,hW9,hX9⟩
       (try replace hb12:=Blk.below hb12 hbx hb12.lt)
       clear hk hbx hk9 hj9 hW9 hX9
       (try (go_wp2_with fail))
       refine hK.out _ _ (HS.out _ hp) fun hH1=>?_;clear hK K hH0
       (try simp only [Act.put,p1,p2,p3,p4,p5,p6])
       refine rd2 10 11 (fun K hK=>?_) (fun K hK=>?_)
       ·(try simp only [p1,p2,p3])
        go_simp;have hk:=And.right ‹_∧Kp wr _›
        first|refine (TM.out _ hk _ _ _ _ _ _ r1q).mono ?_|refine (TM.out _ hk _ _ _ _ _ _ (RQ.below r1q ((Kp.refl v6).alloc _))).mono ?_
        rintro e v7 ⟨A1,k1,c1,A2,k2,d2,rfl,hk9,hj9,hW9,hX9,hF9,hG9,hbx⟩;have hp:=Kp.trans hk hbx;have r2q:RQ v7 mq A1 k1 c1 A2 k2 d2:=⟨hk9,hj9,hW9,hX9⟩
        (try replace hb12:=Blk.below hb12 hbx hb12.lt)
        clear hk hbx hk9 hj9 hW9 hX9 hF9 hG9 r1q
        (try (go_wp2_with fail))
        refine hK.out _ _ (HS.out _ hp) fun hH2=>?_;clear hK K hH1
        (try simp only [Act.put,p1,p2,p3,p4,p5,p6])
        refine rd1 11 fun K hK=>?_
        (try simp only [p1,p2,p3])
        go_simp;have hk:=And.right ‹_∧Kp wr _›;have hg12:=Below.size hk;have hb12:=blk_hereS hk 42 #[.bool false,.slice none 0 0,.bool false,.slice none 0 0]
        (try simp only [sz_drewS] at hb12 hg12)
        refine hK.out _ _ (by first|exact HS.out _ (Kp.alloc hk _)|exact HS.out _ (Kp.drew (Kp.alloc (Kp.refl wr) _))) fun hH3=>?_;clear hK K hH2
        (try simp only [Act.put,p1,p2,p3,p4,p5,p6])
        refine rd1 12 fun K hK=>?_;have hk:=And.right ‹_∧Kp wr _›;obtain ⟨_,_,_,_,i0,i1',i2',i3⟩:=hb12.four
        (try simp only [p1,p2,p3])
        go_simp;refine hK.out _ _ (by first|exact HS.out _ (Kp.alloc hp _)|exact HS.out _ (kp_set4 hk hg12 _ _ _ _)) fun hH4=>?_;clear hK K hH3
        (try simp only [Act.put,p1,p2,p3,p4,p5,p6])
        refine wpAnyH_done (by kernel_rfl) ?_ _;clear hH4;have hkY:=Kp.alloc hp (.cells #[.bool (decide (mq.num<0)),.slice A1 k1 c1,.bool false,.slice A2 k2 d2] 42);have hbY:=Blk.new v7 42 #[.bool (decide (mq.num<0)),.slice A1 k1 c1,.bool false,.slice A2 k2 d2];have hqY:=WQ.below r2q ((Kp.refl v7).alloc (.cells #[.bool (decide (mq.num<0)),.slice A1 k1 c1,.bool false,.slice A2 k2 d2] 42));have hgY:=Below.size hp;clear hk hp hb12 hg12 i0 i1' i2' i3 r2q;generalize v7.alloc (.cells #[.bool (decide (mq.num<0)),.slice A1 k1 c1,.bool false,.slice A2 k2 d2] 42)=Y at *;generalize v7.heap.size=gx at hbY hgY ⊢;revert hgY;revert hqY;revert hbY;revert hkY;revert d2;revert k2;revert A2;revert c1;revert k1;revert A1;revert n4;revert n3;revert N2;revert n2;revert n1;revert N1;revert gx;revert Y;exact key.out
       ·(try simp only [p1,p2,p3])
        go_simp;have hk:=And.right ‹_∧Kp wr _›;have hg12:=Below.size hk;have hb12:=blk_hereS hk 42 #[.bool false,.slice none 0 0,.bool false,.slice none 0 0]
        (try simp only [sz_drewS] at hb12 hg12)
        refine hK.out _ _ (by first|exact HS.out _ (Kp.alloc hk _)|exact HS.out _ (Kp.drew (Kp.alloc (Kp.refl wr) _))) fun hH5=>?_;clear hK K hH1
        (try simp only [Act.put,p1,p2,p3,p4,p5,p6])
        refine rd1 10 fun K hK=>?_
        (try simp only [p1,p2,p3])
        go_simp;have hk:=And.right ‹_∧Kp wr _›
        first|refine (TM.out _ hk _ _ _ _ _ _ r1q).mono ?_|refine (TM.out _ hk _ _ _ _ _ _ (RQ.below r1q ((Kp.refl v6).alloc _))).mono ?_
        rintro e v7 ⟨A1,k1,c1,A2,k2,d2,rfl,hk9,hj9,hW9,hX9,hF9,hG9,hbx⟩;have hp:=Kp.trans hk hbx;have r2q:RQ v7 mq A1 k1 c1 A2 k2 d2:=⟨hk9,hj9,hW9,hX9⟩
        (try replace hb12:=Blk.below hb12 hbx hb12.lt)
        clear hk hbx hk9 hj9 hW9 hX9 hF9 hG9 r1q
        (try (go_wp2_with fail))
        refine hK.out _ _ (HS.out _ hp) fun hH6=>?_;clear hK K hH5
        (try simp only [Act.put,p1,p2,p3,p4,p5,p6])
        refine rd1 12 fun K hK=>?_;have hk:=And.right ‹_∧Kp wr _›;obtain ⟨_,_,_,_,i0,i1',i2',i3⟩:=hb12.four
        (try simp only [p1,p2,p3])
        go_simp;refine hK.out _ _ (by first|exact HS.out _ (Kp.alloc hp _)|exact HS.out _ (kp_set4 hk hg12 _ _ _ _)) fun hH7=>?_;clear hK K hH6
        (try simp only [Act.put,p1,p2,p3,p4,p5,p6])
        refine wpAnyH_done (by kernel_rfl) ?_ _;clear hH7;have hkY:=kp_set4 hp hg12 (.bool (decide (mq.num<0))) (.slice A1 k1 c1) (.bool false) (.slice A2 k2 d2);have hbY:=(show Blk (qst v7 v6.heap.size 0 (decide (mq.num<0)) false A1 A2 k1 c1 k2 d2) v6.heap.size 42 #[.bool (decide (mq.num<0)),.slice A1 k1 c1,.bool false,.slice A2 k2 d2] from hb12.put4);have hqY:=WQ.put4 (o:=0) (a:=decide (mq.num<0)) (b:=false) (B:=A1) (B':=A2) (j:=k1) (d:=c1) (j':=k2) (d':=d2) r2q hb12 NoInt.four;simp only [qst,Nat.zero_add] at hbY hqY;have hgY:=hg12;clear hk hp hb12 hg12 i0 i1' i2' i3 r2q;generalize (((v7.setCell ⟨v6.heap.size,0,none⟩ (.bool (decide (mq.num<0)))).setCell ⟨v6.heap.size,1,none⟩ (.slice A1 k1 c1)).setCell ⟨v6.heap.size,2,none⟩ (.bool false)).setCell ⟨v6.heap.size,3,none⟩ (.slice A2 k2 d2)=Y at *;generalize hgxe:v6.heap.size=gx at hbY ⊢;replace hgY:wr.heap.size≤gx:=by rw [← hgxe];exact hgY
        clear hgxe;revert hgY;revert hqY;revert hbY;revert hkY;revert d2;revert k2;revert A2;revert c1;revert k1;revert A1;revert n4;revert n3;revert N2;revert n2;revert n1;revert N1;revert gx;revert Y;exact key.out
      ·(try simp only [p1,p2,p3])
       go_simp;have hk:=And.right ‹_∧Kp wr _›;have hg12:=Below.size hk;have hb12:=blk_hereS hk 42 #[.bool false,.slice none 0 0,.bool false,.slice none 0 0]
       (try simp only [sz_drewS] at hb12 hg12)
       refine hK.out _ _ (by first|exact HS.out _ (Kp.alloc hk _)|exact HS.out _ (Kp.drew (Kp.alloc (Kp.refl wr) _))) fun hH8=>?_;clear hK K hH0
       (try simp only [Act.put,p1,p2,p3,p4,p5,p6])
       refine rd1 9 fun K hK=>?_
       (try simp only [p1,p2,p3])
       go_simp;have hk:=And.right ‹_∧Kp wr _›;refine (TI.out _).mono ?_;rintro e v6 ⟨N1,n1,n2,N2,n3,n4,rfl,hk9,hj9,hW9,hX9,-,-,hbx⟩;have hp:=Kp.trans hk hbx;have r1q:RQ v6 xq N1 n1 n2 N2 n3 n4:=⟨hk9,hj9,hW9,hX9⟩
       (try replace hb12:=Blk.below hb12 hbx hb12.lt)
       clear hk hbx hk9 hj9 hW9 hX9
       (try (go_wp2_with fail))
       refine hK.out _ _ (HS.out _ hp) fun hH9=>?_;clear hK K hH8
       (try simp only [Act.put,p1,p2,p3,p4,p5,p6])
       refine rd1 10 fun K hK=>?_
       (try simp only [p1,p2,p3])
       go_simp;have hk:=And.right ‹_∧Kp wr _›
       first|refine (TM.out _ hk _ _ _ _ _ _ r1q).mono ?_|refine (TM.out _ hk _ _ _ _ _ _ (RQ.below r1q ((Kp.refl v6).alloc _))).mono ?_
       rintro e v7 ⟨A1,k1,c1,A2,k2,d2,rfl,hk9,hj9,hW9,hX9,hF9,hG9,hbx⟩;have hp:=Kp.trans hk hbx;have r2q:RQ v7 mq A1 k1 c1 A2 k2 d2:=⟨hk9,hj9,hW9,hX9⟩
       (try replace hb12:=Blk.below hb12 hbx hb12.lt)
       clear hk hbx hk9 hj9 hW9 hX9 hF9 hG9 r1q
       (try (go_wp2_with fail))
       refine hK.out _ _ (HS.out _ hp) fun hH10=>?_;clear hK K hH9
       (try simp only [Act.put,p1,p2,p3,p4,p5,p6])
       refine rd1 12 fun K hK=>?_;have hk:=And.right ‹_∧Kp wr _›;obtain ⟨_,_,_,_,i0,i1',i2',i3⟩:=hb12.four
       (try simp only [p1,p2,p3])
       go_simp;refine hK.out _ _ (by first|exact HS.out _ (Kp.alloc hp _)|exact HS.out _ (kp_set4 hk hg12 _ _ _ _)) fun hH11=>?_;clear hK K hH10
       (try simp only [Act.put,p1,p2,p3,p4,p5,p6])
       refine wpAnyH_done (by kernel_rfl) ?_ _;clear hH11;have hkY:=kp_set4 hp hg12 (.bool (decide (mq.num<0))) (.slice A1 k1 c1) (.bool false) (.slice A2 k2 d2);have hbY:=(show Blk (qst v7 wr.heap.size 0 (decide (mq.num<0)) false A1 A2 k1 c1 k2 d2) wr.heap.size 42 #[.bool (decide (mq.num<0)),.slice A1 k1 c1,.bool false,.slice A2 k2 d2] from hb12.put4);have hqY:=WQ.put4 (o:=0) (a:=decide (mq.num<0)) (b:=false) (B:=A1) (B':=A2) (j:=k1) (d:=c1) (j':=k2) (d':=d2) r2q hb12 NoInt.four;simp only [qst,Nat.zero_add] at hbY hqY;have hgY:=hg12;clear hk hp hb12 hg12 i0 i1' i2' i3 r2q;generalize (((v7.setCell ⟨wr.heap.size,0,none⟩ (.bool (decide (mq.num<0)))).setCell ⟨wr.heap.size,1,none⟩ (.slice A1 k1 c1)).setCell ⟨wr.heap.size,2,none⟩ (.bool false)).setCell ⟨wr.heap.size,3,none⟩ (.slice A2 k2 d2)=Y at *;generalize hgxe:wr.heap.size=gx at hbY ⊢;replace hgY:wr.heap.size≤gx:=by rw [← hgxe];exact hgY
       clear hgxe;revert hgY;revert hqY;revert hbY;revert hkY;revert d2;revert k2;revert A2;revert c1;revert k1;revert A1;revert n4;revert n3;revert N2;revert n2;revert n1;revert N1;revert gx;revert Y;exact key.out
     case k =>
      intro Y gx N1 n1 n2 N2 n3 n4 A1 k1 c1 A2 k2 d2 hkY hbY hqY hgY;clear TI TM;have hgsY:gs<Y.heap.size:=Nat.lt_of_lt_of_le hgsr (Below.size hkY);have t0:=(Below.cell hkY (p:=⟨gs,cN*4,none⟩) hgsr).trans s0;have t1:=(Below.cell hkY (p:=⟨gs,cN*4+1,none⟩) hgsr).trans s1;have t2:=(Below.cell hkY (p:=⟨gs,cN*4+2,none⟩) hgsr).trans s2;have t3:=(Below.cell hkY (p:=⟨gs,cN*4+3,none⟩) hgsr).trans s3;have TA:=Hj (fun W (hW:Kp Y W)=>TA0.out W _ _ _ _ _ _ (HWY.out.below (Below.trans hkY (Below.mono hW (Below.size hkY)))) (RQ.below hqY hW));have TS:=Hj (fun W (hW:Kp Y W)=>TS0.out W _ _ _ _ _ _ (HBX.out.2.below (Below.trans hkY (Below.mono hW (Below.size hkY)))) (RQ.below hqY hW));have HBL:=Hj (Kp.blk hkY HBX.out.1);have HRW:=Hj (HRS.out.below hkY);have HBY:=Hj hbY;have HQY:=Hj hqY;have HKY:=Hj hkY;clear s0 s1 s2 s3 hkY hbY hqY hgY HBX TA0 TS0 HWY HRS y2 cx hbr hbr5
      go_wp2_with fail
      refine held_front (W:=Y) (C:=fun w'=>w'.cell? ⟨gs,cN*4,none⟩=some (.bool (decide (yq.num<0)))∧w'.cell? ⟨gs,cN*4+1,none⟩=some (.slice R5 r5 s5)∧w'.cell? ⟨gs,cN*4+2,none⟩=some (.bool false)∧w'.cell? ⟨gs,cN*4+3,none⟩=some (.slice R6 r6 s6)∧w'.cell? ⟨gx,0,none⟩=some (.bool (decide (mq.num<0)))∧w'.cell? ⟨gx,1,none⟩=some (.slice A1 k1 c1)∧w'.cell? ⟨gx,2,none⟩=some (.bool false)∧w'.cell? ⟨gx,3,none⟩=some (.slice A2 k2 d2)∧w'.cell? ⟨gl,0,none⟩=some (.bool (decide (lq.num<0)))∧w'.cell? ⟨gl,1,none⟩=some (.slice A5 k5 c5)∧w'.cell? ⟨gl,2,none⟩=some (.bool false)∧w'.cell? ⟨gl,3,none⟩=some (.slice A6 k6 c6)) 12 2 (fun w' hk=>⟨(Below.cell hk (p:=⟨gs,_,none⟩) hgsY).trans t0,(Below.cell hk (p:=⟨gs,_,none⟩) hgsY).trans t1,(Below.cell hk (p:=⟨gs,_,none⟩) hgsY).trans t2,(Below.cell hk (p:=⟨gs,_,none⟩) hgsY).trans t3,(Kp.blk hk HBY.out).cell 0,(Kp.blk hk HBY.out).cell 1,(Kp.blk hk HBY.out).cell 2,(Kp.blk hk HBY.out).cell 3,(Kp.blk hk HBL.out).cell 0,(Kp.blk hk HBL.out).cell 1,(Kp.blk hk HBL.out).cell 2,(Kp.blk hk HBL.out).cell 3⟩) (Kp.refl Y) (fun HS13 hH0=>?_);refine tq 0 ?_;refine tq 1 ?_;refine tq 2 ?_;refine tq 3 ?_;refine tq 4 ?_;refine tq 5 ?_;refine tq 6 ?_;refine tq 8 ?_;refine tq 9 ?_;refine rd1 7 fun K hK=>?_
      (try simp only [p1,p2,p3])
      go_simp;have hk:=And.right ‹_∧Kp Y _›;refine (TA.out _ hk).mono ?_;rintro e v5 ⟨Xa1,xa2,xa3,Xa4,xa5,xa6,rfl,hk1,hk2,hW1,hW2,hF1,hF2,hbx⟩;have hp:Kp Y v5:=Kp.trans hk hbx;have cqa:RQ v5 sq Xa1 xa2 xa3 Xa4 xa5 xa6:=⟨hk1,hk2,hW1,hW2⟩;clear hk hbx hk1 hk2 hW1 hW2 hF1 hF2
      (try (go_wp2_with fail))
      refine hK.out _ _ (HS13.out _ hp) fun hH12=>?_;clear hK K hH0
      (try simp only [Act.put,p1,p2,p3,p4,p5,p6])
      refine rd1 10 fun K hK=>?_
      (try simp only [p1,p2,p3])
      go_simp;have hk:=And.right ‹_∧Kp Y _›;refine (TS.out _ hk).mono ?_;rintro e v8 ⟨Xb1,xb2,xb3,Xb4,xb5,xb6,rfl,hk1,hk2,hW1,hW2,hF1,hF2,hbx⟩;have hp:Kp Y v8:=Kp.trans hk hbx;have cqb:RQ v8 nq Xb1 xb2 xb3 Xb4 xb5 xb6:=⟨hk1,hk2,hW1,hW2⟩
      (try replace cqa:=cqa.below hbx)
      clear hk hbx hk1 hk2 hW1 hW2 hF1 hF2
      (try (go_wp2_with fail))
      refine hK.out _ _ (HS13.out _ hp) fun hH13=>?_;clear hK K hH12
      (try simp only [Act.put,p1,p2,p3,p4,p5,p6])
      refine tq 11 ?_;refine wpAnyH_done (by kernel_rfl) ?_ _;clear hH13;unfold Qfr;dsimp only;have hrow8:=HRW.out.below hp;obtain ⟨_,_,_,_,_,_,i0,i1',i2',i3,i4,i5,i6,i7,-⟩:=hrow8.cells hcl;have hbl:=Kp.blk hp HBL.out;obtain ⟨_,_,_,_,f20,f21,f22,f23⟩:=hbl.four;refine wpAny_ready (rs:=[12]) (by kernel_rfl) (by simp) ?_;refine AllReady.cons rfl (fun K hK=>?_) AllReady.nil
      (try simp only [p1,p2,p3])
      go_simp;refine hK _ _ ?_;clear hK K
      (try simp only [Act.put,p1,p2,p3,p4,p5,p6])
      refine wpAny_ready (rs:=[13]) (by kernel_rfl) (by simp) ?_;refine AllReady.cons rfl (fun K hK=>?_) AllReady.nil
      (try simp only [p1,p2,p3])
      have hne1:¬ gs=gl:=HNE.out;have hne2:¬ gl=gs:=fun e=>HNE.out e.symm;go_simp;refine hK _ _ ?_;clear hK K
      (try simp only [Act.put,p1,p2,p3,p4,p5,p6])
      refine wpAny_done (by kernel_rfl) ?_ _;have hp9:RsO w gs gl n rn nq (((((((((v8.setCell ⟨gs,cN*4,none⟩ (.bool (decide (sq.num<0)))).setCell ⟨gs,cN*4+1,none⟩ (.slice Xa1 xa2 xa3)).setCell ⟨gs,cN*4+2,none⟩ (.bool false)).setCell ⟨gs,cN*4+3,none⟩ (.slice Xa4 xa5 xa6)).setCell ⟨gl,0,none⟩ (.bool (decide (nq.num<0)))).setCell ⟨gl,1,none⟩ (.slice Xb1 xb2 xb3)).setCell ⟨gl,2,none⟩ (.bool false)).setCell ⟨gl,3,none⟩ (.slice Xb4 xb5 xb6))):=by
       show RsO w gs gl n rn nq (qst (qst v8 gs (cN*4) (decide (sq.num<0)) false Xa1 Xa4 xa2 xa3 xa5 xa6) gl 0 (decide (nq.num<0)) false Xb1 Xb4 xb2 xb3 xb5 xb6);have hrow9:=hrow8.put hcl cqa.1 cqa.2.1 cqa.2.2.1 cqa.2.2.2;rw [← HRN.out] at hrow9;obtain ⟨-,cs8,hbk8,hni8,-⟩:=hrow8;have hbl9:Blk (qst v8 gs (cN*4) (decide (sq.num<0)) false Xa1 Xa4 xa2 xa3 xa5 xa6) gl _ _:=hbl.far4 (by have:=HNE.out;omega);have hcb:=cqb.put4 (o:=cN*4) (a:=decide (sq.num<0)) (b:=false) (B:=Xa1) (B':=Xa4) (j:=xa2) (d:=xa3) (j':=xa5) (d':=xa6) hbk8 hni8;refine ⟨below_qst (below_qst (HBB.out.trans (Below.mono (Kp.trans HKY.out hp) HBB.out.size)) HGE.out.1) HGE.out.2,hrow9.far4 (by have:=HNE.out;omega) hbl9 NoInt.four,Xb1,xb2,xb3,Xb4,xb5,xb6,hbl9.put4,hcb.put4 hbl9 NoInt.four⟩
      generalize ((((((((v8.setCell ⟨gs,cN*4,none⟩ (.bool (decide (sq.num<0)))).setCell ⟨gs,cN*4+1,none⟩ (.slice Xa1 xa2 xa3)).setCell ⟨gs,cN*4+2,none⟩ (.bool false)).setCell ⟨gs,cN*4+3,none⟩ (.slice Xa4 xa5 xa6)).setCell ⟨gl,0,none⟩ (.bool (decide (nq.num<0)))).setCell ⟨gl,1,none⟩ (.slice Xb1 xb2 xb3)).setCell ⟨gl,2,none⟩ (.bool false)).setCell ⟨gl,3,none⟩ (.slice Xb4 xb5 xb6))=Y9 at *;have HF:=Hj hp9;clear hne1 hne2 hp9 cqa cqb hp hrow8 hbl i0 i1' i2' i3 i4 i5 i6 i7 f20 f21 f22 f23 TA TS HS13 HQY HBY HBL HKY HRW t0 t1 t2 t3 hgsY;have xw:IntKind.i64.wrap ((cN:Int)-1)=(cN:Int)-1:=IntWalk.i64_in _ (by omega);go_wp2;go_roundw
      case rel=>exact ⟨j+1,(cN:Int)-1,by omega,rfl,hcI.out,by rw [HRNE.out,HNQE.out];exact HF⟩
      case measure=>simp [intOf]
    ·obtain rfl:j=n:=by omega
     have d0:decide ((0:Int)≤ci)=false:=by have:=hci.out;simp;omega
     have HF:Hid (RsO w gs gl j yn rn1 wr):=Hj (by rw [HSA.out,HRA.out,← lRest_end HXS.out.1 HXS.out.2.1 HXS.out.2.2.2.1];exact hR.out);clear hR hci;go_wp2;go_roundw
     case rel=>exact ⟨i+1,by omega,by go_num,by rw [HYN.out,HRNE.out];exact HF⟩
     case measure=>simp [intOf];omega
  ·obtain rfl:i=m:=by omega
   obtain ⟨hB,hRS,-⟩:=hR0.out;have HF:=Hj (And.intro hRS (And.intro HGE.out.1 hB));clear hR0 hRS hB;go_wp2;go_ret2;exact ⟨gs,rfl,HF.out.1,HF.out.2.1,HF.out.2.2⟩
end Go.Proofs.YtjajigkacccdgaaGreat
namespace Go.Proofs.YtjajigkacccdgaaGreat
open Go
section
variable {pre:List Value} {n i t:Nat} {f:Nat→Value} {v:Value}
theorem wn1 {o:Oper} {y:Nat→Option Bool} {g:Nat} {b:Bool} (h:o.guard=some (g,b)) (hy:y g=some b):Region.wanted o y=true:=by
 unfold Region.wanted;rw [h];simp [hy]
end
section
variable {pre:List Value} {n N i t:Nat} {f:Nat→Value} {v:Value}
end
end Go.Proofs.YtjajigkacccdgaaGreat
