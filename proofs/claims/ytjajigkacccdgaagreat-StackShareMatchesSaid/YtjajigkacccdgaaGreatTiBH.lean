/-
Lemmas of the walk; no further conditions.
-/
import Derived.Test.YtjajigkacccdgaaGreatTiBG
set_option linter.unusedVariables false
set_option linter.unusedSimpArgs false
set_option maxRecDepth 100000
set_option maxHeartbeats 16000000
namespace Go.Proofs.YtjajigkacccdgaaGreat
open Go.RowKit
open Wd
attribute [local go_sem ↓] Go.wp_at_zero Go.wp_at_succ
def SrO (w:World) (gt gs m n:Nat) (ts:List Rat) (ys:List Rat) (wr:World):Prop:=Below w.heap.size w wr∧QRow wr gt m ts∧QRow wr gs n ys∧FrRow w.heap.size wr gs n
def SrR (w:World) (gl gb gt gs m n:Nat) (p q:Int) (A2:Option Addr) (c2:Nat) (ts:List Rat) (ys:List Rat) (r:Rat) (B:Option Addr) (bk bc:Nat) (B':Option Addr) (bk' bc':Nat) (wr:World):Prop :=
 Below w.heap.size w wr∧Blk wr gl 64 #[.int .i64 p,.int .i64 q,.slice A2 n c2]∧Blk wr gb 42 #[.bool (decide (r.num<0)),.slice B bk bc,.bool false,.slice B' bk' bc']∧WQ wr r B bk bc B' bk' bc'∧QRow wr gt m ts∧QRow wr gs n ys∧FrRow w.heap.size wr gs n
theorem share_fr {s:Nat} (hs:3≤s) (hs2:s≤100000) (up:Bool) (A:Option Addr) (m n c:Nat) (lv:List St.Lv) (zq:Rat) (an an':Bool) (aA aA':Option Addr) (ak ac ak' ac':Nat) (w:World) (h:LvAt w A m n lv) (hv:VL up n lv) (hq:QS s w an aA ak ac an' aA' ak' ac' zq) (h0:0≤zq) (h1:zq≤((totI lv:Int):Rat)) (hm0:m≠0) :
  Calls Tryz.prog 31 #[.slice A m c,.agg #[.bool an,.slice aA ak ac,.bool an',.slice aA' ak' ac']] w fun e w'=>∃ g,e=.returned (.tuple #[.slice (some ⟨g,0,none⟩) n n,.int .i64 0])∧QRow w' g n (qAll lv n zq m)∧FrRow w.heap.size w' g n∧w.heap.size≤g∧Below w.heap.size w w':=by
 have hl:=h.1;have hm:m≤48:=by have:=hv.len;omega
 have hn1:1≤n:=hv.n0 (by omega);have hn16:=hv.n16;have h3:=wb_three;have h3s:=wb_mono hs;have hwm:=wb_mul s s;have hws:WB s≤WB (s+s+1):=wb_mono (by omega);have hsz:=hq.ls;have HF0:=Hj (fun W (hW:Below w.heap.size w W)=>fill_ok (WB (s+s+1)) (WB s) (WB s) (wb_ok (by omega)) (by omega) (by omega) (by omega) (by omega) (by omega) (by omega) (by omega) up A m n c lv an an' aA aA' ak ac ak' ac' zq W (h.below hW) (hq.below hW) hv h0 h1);have HPB:=Hj (partAt_ls hs hv h0 hsz);have HSS:=Hj (And.intro hs hs2);have HPBF:=Hj (show ∀ k,k<lv.length→0≤partAt (lvQ lv) zq k∧Ls s (partAt (lvQ lv) zq k) from HPB.out);have HL:=Hj h;have HV:=Hj hv;have HLN:=Hj hl;have hmk:=fun w=>run_make_Q n (by omega) w;clear h hv hq h1 hl h0 h3 h3s hwm hws hsz hs hs2;go_enter Tryz.func31,Tryz.ntmps31
 go_wp2_with fail
 obtain ⟨hB0,hBW,hsz⟩:=pre1 w 42 #[.bool an,.slice aA ak ac,.bool an',.slice aA' ak' ac'];generalize w.alloc (.cells #[.bool an,.slice aA ak ac,.bool an',.slice aA' ak' ac'] 42)=W at *;have HSZ:=Hj hsz;clear hsz;refine (HF0.out W hBW).mono ?_;rintro e w1 ⟨gt,ts,rfl,hRow,hPs,hgt,hb1⟩;have HB1:=Hj (hBW.trans (hb1.mono hBW.size));have HRT:=Hj hRow;have HPS:=Hj hPs;have hgt2:w.heap.size≤gt:=Nat.le_trans hBW.size hgt;obtain ⟨b,o,rfl,hb,hcell⟩:=HL.out.2 hm0;obtain ⟨A0,c0,⟨-,-,z2⟩,-⟩:=hcell 0 (by omega);rw [Nat.zero_mul,Nat.add_zero] at z2;replace z2:=(HB1.out.cell (p:=⟨b,o+2,none⟩) hb).trans z2;have m0:(0:Int)<(m:Int):=by omega
 have mz:((m:Int) == 0)=false:=by simp;omega
 have HCL:=Hj hcell;clear HF0 hRow hPs hgt hBW hb1 HSZ hB0 hcell
 go_wp2_with fail
 have hgtl:gt<w1.heap.size:=by obtain ⟨_,cs,hbk,_⟩:=HRT.out;exact hbk.lt
 have hst:SrO w gt w1.heap.size m n ts (qAll lv n zq 0) (w1.alloc (.cells (madeCells qzero (n*4)) 42)):=by
  refine ⟨HB1.out.alloc HB1.out.size _,HRT.out.below ((Below.refl _ _).alloc (Nat.le_refl _) _),?_,FrRow.start _ w1 n⟩;have:=QRow.start w1 n;rw [qAll];exact this
 have HST:=Hj hst;have hgs:w.heap.size≤w1.heap.size:=HB1.out.size;clear hst hmk HB1 HRT z2;generalize w1.alloc (.cells (madeCells qzero (n*4)) 42)=W0 at *;generalize w1.heap.size=gs at *
 go_loopw [36] (fun t wr=>∃ i:Nat,i≤m∧t=.int .i64 i∧Hid (SrO w gt gs m n ts (qAll lv n zq i) wr)) (fun t _=>m-(intOf t).toNat)
 case atStart=>exact ⟨0,Nat.zero_le _,rfl,HST.out⟩
 case round =>
  clear HST;obtain ⟨i,hi,rfl,hR⟩:=hrel;by_cases hlt:i<m
  ·obtain ⟨hB,hRT,hRS,hFR⟩:=hR.out;have HFR9:=Hj hFR;clear hFR;obtain ⟨A2,c2,⟨y0,y1,y2⟩,hpt⟩:=HCL.out i hlt;replace y0:=(hB.cell (p:=⟨b,o+i*3,none⟩) hb).trans y0;replace y1:=(hB.cell (p:=⟨b,o+i*3+1,none⟩) hb).trans y1;replace y2:=(hB.cell (p:=⟨b,o+i*3+2,none⟩) hb).trans y2;have hp:=HV.out.parts _ (getD_mem (d:=Lv0) (show i<lv.length by rw [HLN.out];exact hlt));have hsa:qAll lv n zq (i+1)=qRow (lv[i]?.getD Lv0).2.2 n (partAt (lvQ lv) zq i) (qAll lv n zq i) n:=rfl;obtain ⟨pb1,pb2⟩:=HPB.out i (by rw [HLN.out];exact hlt);have hbd:=fun i2 (hi2:i2<n)=>qAll_ls HSS.out.1 HV.out HPBF.out (k:=i) (by rw [HLN.out];omega) hi2;have hyl:=qAll_len lv n zq i;obtain ⟨A8,k8,c8,A9,k9,c9,j0,j1,j2,j3,-,-,-,-,hk8,hk9,hW8,hW9⟩:=hRT.cells hlt;have hps:=HPS.out i hlt;rw [hps] at j0 hW8 hW9;generalize (lv[i]?.getD Lv0).1=p at *;generalize (lv[i]?.getD Lv0).2.1=q at *;generalize (lv[i]?.getD Lv0).2.2=xs at *;generalize hyn:qAll lv n zq (i+1)=yn at *;have HYN:=Hj hyn;clear hyn;generalize qAll lv n zq i=ys at *;generalize partAt (lvQ lv) zq i=tq at *;have hki1:(0:Int)≤(i:Int):=by omega
   have hki2:(i:Int)<(m:Int):=by omega
   have hgt9:gt<wr.heap.size:=by obtain ⟨_,cs,hbk,_⟩:=hRT;exact hbk.lt
   have hgs9:gs<wr.heap.size:=by obtain ⟨_,cs,hbk,_⟩:=hRS;exact hbk.lt
   have xn:IntKind.i64.wrap ((n:Int)-1)=(n:Int)-1:=IntWalk.i64_in _ (by omega);have HP:=Hj hp;have HSA:=Hj hsa;have HBD:=Hj hbd;have HYL:=Hj hyl;have HPT:=Hj hpt;have HB9:=Hj hB;have HRT9:=Hj hRT;have HRS9:=Hj hRS;have HW8:=Hj (⟨hk8,hk9,hW8,hW9⟩:WQ wr tq A8 k8 c8 A9 k9 c9);clear hp hsa hbd hyl hpt hR hps hW8 hW9 hk8 hk9 hB hRT hRS
   go_wp2_with fail
   have kp:=((Kp.refl wr).alloc (.cells #[.int .i64 p,.int .i64 q,.slice A2 n c2] 64)).alloc (.cells #[.bool (decide (tq.num<0)),.slice A8 k8 c8,.bool false,.slice A9 k9 c9] 42);have hst2:SrR w wr.heap.size (wr.heap.size+1) gt gs m n p q A2 c2 ts (qRow xs n tq ys 0) tq A8 k8 c8 A9 k9 c9 ((wr.alloc (.cells #[.int .i64 p,.int .i64 q,.slice A2 n c2] 64)).alloc (.cells #[.bool (decide (tq.num<0)),.slice A8 k8 c8,.bool false,.slice A9 k9 c9] 42)) :=
    ⟨HB9.out.trans (Below.mono kp HB9.out.size),(Blk.new wr _ _).alloc _,Blk.new1 wr _ _ _,WQ.below HW8.out kp,HRT9.out.below kp,HRS9.out.below kp,HFR9.out.below kp⟩
   have HST2:=Hj hst2;have hwl:w.heap.size≤wr.heap.size:=HB9.out.size;clear HFR9 hst2 kp y0 y1 y2 j0 j1 j2 j3 HB9 HRT9 HRS9 HW8;generalize (wr.alloc (.cells #[.int .i64 p,.int .i64 q,.slice A2 n c2] 64)).alloc (.cells #[.bool (decide (tq.num<0)),.slice A8 k8 c8,.bool false,.slice A9 k9 c9] 42)=W1 at *;generalize wr.heap.size=gl at *
   go_loopw [12] (fun tt wx=>∃ (j:Nat) (ci:Int) (rq:Rat) (B:Option Addr) (bk bc:Nat) (B':Option Addr) (bk' bc':Nat),j≤n∧tt=.int .i64 ci∧Hid (ci=(n:Int)-1-(j:Int))∧Hid (rq=qRest xs n tq j)∧Hid (SrR w gl (gl+1) gt gs m n p q A2 c2 ts (qRow xs n tq ys j) rq B bk bc B' bk' bc' wx)) (fun tt _=>(intOf tt+1).toNat)
   case atStart=>exact ⟨0,(n:Int)-1,tq,A8,k8,c8,A9,k9,c9,Nat.zero_le _,rfl,by show (n:Int)-1=(n:Int)-1-((0:Nat):Int);omega,rfl,HST2.out⟩
   case round =>
    clear HST2;obtain ⟨j,ci,rq,B,bk,bc,B',bk',bc',hj,rfl,hci,hrq,hR⟩:=hrel;by_cases hjn:j<n
    ·obtain ⟨cN,rfl⟩:∃ cN:Nat,ci=(cN:Int):=⟨n-1-j,by have:=hci.out;omega⟩;have hcn:n-1-j=cN:=by have:=hci.out;omega
     have hcl:cN<n:=by omega
     obtain ⟨hB,hBL,hBR,hWQ,hRT,hRS,hFR⟩:=hR.out;have HFR:=Hj hFR;clear hFR;obtain ⟨b5,o5,rfl,hb5,hc5⟩:=HPT.out.2 (by omega);have cx:=(hB.cell (p:=⟨b5,o5+cN,none⟩) hb5).trans (hc5 cN hcl);have hxb:=HP.out.2 _ (getD_mem (d:=0) (show cN<xs.length by rw [HP.out.1];exact hcl));obtain ⟨rb1,rb2⟩:=qRest_ls (n:=n) HP.out.2 pb1 pb2 j;have hrowb:Ls (i*(s+1)+1) ((qRow xs n tq ys j)[cN]?.getD 0):=by
      rw [qRow_get HYL.out j hj cN hcl,if_neg (by omega)];exact HBD.out cN hcl
     have hrs1:qRest xs n tq (j+1)=qRest xs n tq j-lessQ (qRest xs n tq j) (xs[cN]?.getD 0):=by rw [qRest,hcn]
     have hrw1:qRow xs n tq ys (j+1)=(qRow xs n tq ys j).set cN ((qRow xs n tq ys j)[cN]?.getD 0+lessQ (qRest xs n tq j) (xs[cN]?.getD 0)):=by rw [qRow,hcn];unfold qPart;rw [hcn]
     have hlen:(qRow xs n tq ys j).length=n:=by rw [qRow_len];exact HYL.out
     obtain ⟨A6,k6,c6,A7,k7,c7,s0,s1,s2,s3,sf0,sf1,sf2,sf3,hk6,hk7,hW6,hW7⟩:=hRS.cells hcl;have hrq2:=hrq.out;subst hrq2;generalize hrne:qRow xs n tq ys (j+1)=rn at *;have HRN:=Hj hrne;generalize hrow0:qRow xs n tq ys j=ro at *;generalize hr1e:qRest xs n tq (j+1)=nq at *;have HR1E:=Hj hr1e;generalize qRest xs n tq j=rq at *;generalize xs[cN]?.getD 0=x at *;generalize ro[cN]?.getD 0=yq at *;have hmx:=lessQ_ls HSS.out.1 rb2 (a:=x) (by omega);have hs3:=HSS.out.1;have hs5:=HSS.out.2;have hix:i*(s+1)+1≤48*(s+1)+1:=by have:=Nat.mul_le_mul_right (s+1) (show i≤48 by omega);omega
     have hxl:Ls s ((x:Int):Rat):=ls_int hs3 (by omega);have FI:=fun W=>qfromInt64_any x W (by omega) (by omega);have HMIN:=fun (W:World) (B2 B2':Option Addr) (j2 d2 j2' d2':Nat) (h1:WQ W rq B bk bc B' bk' bc') (h2:WQ W ((x:Int):Rat) B2 j2 d2 B2' j2' d2')=>(show Calls Tryz.prog 85 #[.agg #[.bool (decide (rq.num<0)),.slice B bk bc,.bool false,.slice B' bk' bc'],.agg #[.bool (decide (((x:Int):Rat).num<0)),.slice B2 j2 d2,.bool false,.slice B2' j2' d2']] W (RetQ W (lessQ rq x)) from min_s (s:=s) (by omega) (RQ.qs h1 rb2 (by omega)) (RQ.qs h2 hxl (by omega)));have HADD:=fun (W:World) (B2 B2':Option Addr) (j2 d2 j2' d2':Nat) (h1:WQ W yq A6 k6 c6 A7 k7 c7) (h2:WQ W (lessQ rq x) B2 j2 d2 B2' j2' d2')=>add_s (s:=48*(s+1)+1) (by omega) (RQ.qs h1 (hrowb.mono hix) (by omega)) (RQ.qs h2 (hmx.mono (by omega)) (by omega));have HSUB:=fun (W:World) (B2 B2':Option Addr) (j2 d2 j2' d2':Nat) (h1:WQ W rq B bk bc B' bk' bc') (h2:WQ W (lessQ rq x) B2 j2 d2 B2' j2' d2')=>sub_s (s:=s) (by omega) (RQ.qs h1 rb2 (by omega)) (RQ.qs h2 hmx (by omega));rw [← hrs1] at HSUB;have hcs:=hrw1;have hwy:WQ wr yq A6 k6 c6 A7 k7 c7:=⟨hk6,hk7,hW6,hW7⟩;have hsl:=(hrowb.mono hix).add hmx;generalize yq+lessQ rq x=sq at *;have HSL:=Hj hsl;clear hsl;generalize lessQ rq x=mq at *;generalize ((x:Int):Rat)=xq at *;clear hmx hs3 hs5 hix hxl;have FI:=Hj FI;have HMIN:=Hj HMIN;have HADD:=Hj HADD;have HSUB:=Hj HSUB;have HCS:=Hj hcs;have HWY:=Hj hwy;have HWQ:=Hj hWQ;have HRT:=Hj hRT;have HRS:=Hj hRS;have HBB:=Hj hB;have hcI:Hid ((cN:Int)-1=(n:Int)-1-((j+1:Nat):Int)):=Hj (by omega);have d0:decide ((0:Int)≤(cN:Int))=true:=by simp
     have i1:(0:Int)≤(cN:Int):=by omega
     have i2:(cN:Int)<(n:Int):=by omega
     have hb5r:b5<wr.heap.size:=Nat.lt_of_lt_of_le hb5 hB.size;have s5:=Kp.refl wr;have hS:∀ w',Kp wr w'→(w'.cell? ⟨gl+1,0,none⟩=some (.bool (decide (rq.num<0)))∧w'.cell? ⟨gl+1,1,none⟩=some (.slice B bk bc)∧w'.cell? ⟨gl+1,2,none⟩=some (.bool false)∧w'.cell? ⟨gl+1,3,none⟩=some (.slice B' bk' bc')∧w'.cell? ⟨gl,2,none⟩=some (.slice (some ⟨b5,o5,none⟩) n c2)∧w'.cell? ⟨b5,o5+cN,none⟩=some (.int .i64 x))∧Kp wr w':=fun w' hk=>⟨⟨(hk.blk hBR).cell 0,(hk.blk hBR).cell 1,(hk.blk hBR).cell 2,(hk.blk hBR).cell 3,(hk.blk hBL).cell 2,(Below.cell hk (p:=⟨b5,o5+cN,none⟩) hb5r).trans cx⟩,hk⟩;have HS:=Hj hS;clear hS hci hrq hR hrs1 hrw1 hlen hxb rb1 rb2 hrowb hcs hwy hWQ hRT hRS hc5 hW6 hW7 hrow0 hcn hB hrne hr1e
     go_wp2_with fail
     go_region_held3 (fun w'=>(w'.cell? ⟨gl+1,0,none⟩=some (.bool (decide (rq.num<0)))∧w'.cell? ⟨gl+1,1,none⟩=some (.slice B bk bc)∧w'.cell? ⟨gl+1,2,none⟩=some (.bool false)∧w'.cell? ⟨gl+1,3,none⟩=some (.slice B' bk' bc')∧w'.cell? ⟨gl,2,none⟩=some (.slice (some ⟨b5,o5,none⟩) n c2)∧w'.cell? ⟨b5,o5+cN,none⟩=some (.int .i64 x))∧Kp wr w')
      (first|(with_reducible (refine HS.out _ ?_;assumption))|(with_reducible (refine HS.out _ (Kp.drew ?_);assumption))|(with_reducible (refine' HS.out _ (Kp.drew (And.right ?_));rotate_left;assumption))|(with_reducible (refine' HS.out _ (Kp.alloc (And.right ?_) _);rotate_left;assumption))|(with_reducible (refine' HS.out _ (Kp.alloc ?_ _);rotate_left;assumption))|(with_reducible (refine HS.out _ (Kp.drew (Kp.alloc ?_ _));assumption))|((with_reducible refine' HS.out _ (kp_set4 (And.right ?_) ?_ _ _ _ _));rotate_left;(with_reducible assumption);first|exact Nat.le_refl _|exact Below.size hp5))
      (first
       | (go_at_call 40;have hk:=And.right ‹_∧Kp wr _›;refine (FI.out _).mono ?_;rintro e v5 ⟨A3,k3,c3,A4,k4,c4,rfl,hk3,hk4,hW3,hW4,hF3,hF4,hb3⟩;have hp5:=Kp.trans hk hb3;(try have hN5:=Blk.below (Blk.drew (Blk.new wr 42 #[.bool false,.slice none 0 0,.bool false,.slice none 0 0])) hb3 (Nat.lt_of_lt_of_eq (Nat.lt_succ_self _) (World.size_alloc _ _).symm));clear hk hF3 hF4 hb3)
       | (go_at_call 85;have hk:=And.right ‹_∧Kp wr _›;refine (HMIN.out _ A3 A4 k3 c3 k4 c4 (WQ.below HWQ.out hk) ⟨hk3,hk4,by first|exact hW3|exact hW3.alloc _,by first|exact hW4|exact hW4.alloc _⟩).mono ?_;rintro e v6 ⟨E5,e5,f5,E6,e6,f6,rfl,he5,he6,hV5,hV6,hF5,hF6,hb4⟩;have hp6:=Kp.trans hk hb4;(try (have hN6:=hN5.below hb4 hN5.lt;obtain ⟨z0,z1,z2,z3,z4,z5,z6,z7⟩:=Blk.four hN6));(try (have hN6:=Blk.below (Blk.new v5 42 #[.bool false,.slice none 0 0,.bool false,.slice none 0 0]) hb4 (Nat.lt_of_lt_of_eq (Nat.lt_succ_self _) (World.size_alloc _ _).symm);obtain ⟨z0,z1,z2,z3,z4,z5,z6,z7⟩:=Blk.four hN6));clear hk hb4))
     ·have hVb:Blk (v6.alloc (.cells #[.bool (decide (mq.num<0)),.slice E5 e5 f5,.bool false,.slice E6 e6 f6] 42)) (v6.heap.size) 42 #[.bool (decide (mq.num<0)),.slice E5 e5 f5,.bool false,.slice E6 e6 f6]:=Blk.new _ _ _;have hVc:WQ (v6.alloc (.cells #[.bool (decide (mq.num<0)),.slice E5 e5 f5,.bool false,.slice E6 e6 f6] 42)) mq E5 e5 f5 E6 e6 f6:=WQ.below ⟨he5,he6,hV5,hV6⟩ ((Below.refl _ _).alloc (Nat.le_refl _) _);have hVk:Kp wr (v6.alloc (.cells #[.bool (decide (mq.num<0)),.slice E5 e5 f5,.bool false,.slice E6 e6 f6] 42)):=Kp.alloc hp6 _;have hg9:gl+1<v6.heap.size:=Nat.lt_of_lt_of_le hBR.lt (by first|exact Nat.le_refl _|exact Below.size hp5|exact Below.size hp6);generalize v6.alloc (.cells #[.bool (decide (mq.num<0)),.slice E5 e5 f5,.bool false,.slice E6 e6 f6] 42)=V at *;generalize hgg:v6.heap.size=g9 at *;have hBR9:=Kp.blk hVk hBR;have hBL9:=Kp.blk hVk hBL;have hlr:gl+1<wr.heap.size:=hBR.lt;have hgsr:gs<wr.heap.size:=by omega
      have hRS9:=HRS.out.below hVk;have hRT9:=HRT.out.below hVk;have hB9:Below w.heap.size w V:=HBB.out.trans (Below.mono hVk HBB.out.size);have t0:=(Below.cell hVk (p:=⟨gs,cN*4,none⟩) hgsr).trans s0;have t1:=(Below.cell hVk (p:=⟨gs,cN*4+1,none⟩) hgsr).trans s1;have t2:=(Below.cell hVk (p:=⟨gs,cN*4+2,none⟩) hgsr).trans s2;have t3:=(Below.cell hVk (p:=⟨gs,cN*4+3,none⟩) hgsr).trans s3;obtain ⟨a0,a1,a2,a3,-⟩:=hVb.four;have HAD:=Hj (fun W (hW:Kp V W)=>HADD.out W E5 E6 e5 f5 e6 f6 (HWY.out.below (Below.trans hVk (Below.mono hW (Below.size hVk)))) (hVc.below hW));have hVc9:=Hj hVc;have hRS9:=Hj hRS9;have s9:=Kp.refl V
      rename_i hHeld
      clear hHeld;clear FI HMIN HADD HS hp5 hp6 hW3 hW4 hk3 hk4 hVc s0 s1 s2 s3 sf0 sf1 sf2 sf3 cx
      (try clear z0 z1 z2 z3 z4 z5 z6 z7 hN6)
      (try clear hN5)
      clear hgg
      go_wp2_with fail
      go_region_with (first|(go_at_call 42;refine (HAD.out _ (Kp.drew s9)).mono ?_;rintro e v8 ⟨A5,k5,c5,A8',k8',c8',rfl,hk5,hk8',hW5,hW8',hF5',hF8',hb8⟩;have hp8:Kp V v8:=Kp.trans (Kp.drew s9) hb8;obtain ⟨_,_,_,_,_,_,i0,i1',i2',i3,i4,i5,i6,i7,-⟩:=(hRS9.out.below hp8).cells hcl;clear hb8))
      all_goals
       have e7:(((v8.setCell ⟨gs,cN*4,none⟩ (.bool (decide (sq.num<0)))).setCell ⟨gs,cN*4+1,none⟩ (.slice A5 k5 c5)).setCell ⟨gs,cN*4+2,none⟩ (.bool false)).setCell ⟨gs,cN*4+3,none⟩ (.slice A8' k8' c8')=qst v8 gs (cN*4) (decide (sq.num<0)) false A5 A8' k5 c5 k8' c8':=rfl;rw [e7];have hRow6:=hRS9.out.below hp8;have hRow7:=hRow6.put hcl hk5 hk8' hW5 hW8';rw [← HCS.out] at hRow7;obtain ⟨hk10,hk11⟩:=RQ.lens (show RQ v8 sq A5 k5 c5 A8' k8' c8' from ⟨hk5,hk8',hW5,hW8'⟩) HSL.out;have hsb:48*(s+1)+1+s+2≤100000000:=by have:=HSS.out.2;omega
       have hFR7:FrRow w.heap.size (qst v8 gs (cN*4) (decide (sq.num<0)) false A5 A8' k5 c5 k8' c8') gs n:=((HFR.out.below hVk).below hp8).put hcl hk5 hk8' (Wr.of hF5' hW5 (by first|exact hB9.size|exact Nat.le_trans hB9.size (Below.size (Kp.drew s9))) (by have:=Below.size hVk;first|omega|(show gs<V.heap.size;omega)) (by omega)) (Wr.of hF8' hW8' (by first|exact hB9.size|exact Nat.le_trans hB9.size (Below.size (Kp.drew s9))) (by have:=Below.size hVk;first|omega|(show gs<V.heap.size;omega)) (by omega));obtain ⟨hlen6,cs6,hbk6,hni6,-⟩:=hRow6;have hBR7:Blk (qst v8 gs (cN*4) (decide (sq.num<0)) false A5 A8' k5 c5 k8' c8') (gl+1) _ _:=(Kp.blk hp8 hBR9).far4 (by omega);have hBL7:Blk (qst v8 gs (cN*4) (decide (sq.num<0)) false A5 A8' k5 c5 k8' c8') gl _ _:=(Kp.blk hp8 hBL9).far4 (by omega);have hVb7:Blk (qst v8 gs (cN*4) (decide (sq.num<0)) false A5 A8' k5 c5 k8' c8') g9 _ _:=(Kp.blk hp8 hVb).far4 (by omega);have hRT7:=(hRT9.below hp8).far4 (o:=cN*4) (a:=decide (sq.num<0)) (b:=false) (A:=A5) (A':=A8') (k:=k5) (c:=c5) (k':=k8') (c':=c8') (by omega) hbk6 hni6;have hWQ7:=(WQ.below (WQ.below HWQ.out hVk) hp8).put4 (o:=cN*4) (a:=decide (sq.num<0)) (b:=false) (B:=A5) (B':=A8') (j:=k5) (d:=c5) (j':=k8') (d':=c8') hbk6 hni6;have hMQ7:=(hVc9.out.below hp8).put4 (o:=cN*4) (a:=decide (sq.num<0)) (b:=false) (B:=A5) (B':=A8') (j:=k5) (d:=c5) (j':=k8') (d':=c8') hbk6 hni6;have hB7:Below w.heap.size w (qst v8 gs (cN*4) (decide (sq.num<0)) false A5 A8' k5 c5 k8' c8'):=below_qst (hB9.trans (Below.mono hp8 hB9.size)) (by omega);generalize qst v8 gs (cN*4) (decide (sq.num<0)) false A5 A8' k5 c5 k8' c8'=W7 at *;have HSB:=Hj (HSUB.out W7 E5 E6 e5 f5 e6 f6 hWQ7 hMQ7);obtain ⟨x0,x1,x2,x3,y0,y1,y2,y3⟩:=hBR7.four;obtain ⟨u0,u1,u2,u3,-⟩:=hVb7.four;have HRW7:=Hj hRow7;have HRT7:=Hj hRT7;have HB7:=Hj hB7;have HFR7:=Hj hFR7;clear hFR7 hk10 hk11 hsb;clear e7 hW5 hW8' hF5' hF8' hbk6 hni6 i0 i1' i2' i3 i4 i5 i6 i7 t0 t1 t2 t3 a0 a1 a2 a3 hVb hRow7 hRT7 hB7 hWQ7 hMQ7 hVb7 hBR9 hBL9 hRT9 hp8 hB9 HAD
       go_wp2_with fail
       refine HSB.out.mono ?_;rintro e v9 ⟨G5,g5,h5,G6,g6,h6,rfl,hg5,hg6,hX5,hX6,hY5,hY6,hb9⟩;have hBR8:=hBR7.below hb9 hBR7.lt;have hBL8:=hBL7.below hb9 hBL7.lt;obtain ⟨l0,l1,l2,l3,m0',m1',m2',m3'⟩:=hBR8.four;have hfin:SrR w gl (gl+1) gt gs m n p q (some ⟨b5,o5,none⟩) c2 ts rn nq G5 g5 h5 G6 g6 h6 (qst v9 (gl+1) 0 (decide (nq.num<0)) false G5 G6 g5 h5 g6 h6):=by
        refine ⟨below_qst (HB7.out.trans (hb9.mono HB7.out.size)) (by omega),hBL8.far4 (by omega),hBR8.put4,?_,?_,?_,(HFR7.out.below hb9).far4 (by omega)⟩
        ·exact WQ.put4 ⟨hg5,hg6,hX5,hX6⟩ hBR8 NoInt.four
        ·exact (HRT7.out.below hb9).far4 (by omega) hBR8 NoInt.four
        ·exact (HRW7.out.below hb9).far4 (by omega) hBR8 NoInt.four
       have e8:(((v9.setCell ⟨gl+1,0,none⟩ (.bool (decide (nq.num<0)))).setCell ⟨gl+1,1,none⟩ (.slice G5 g5 h5)).setCell ⟨gl+1,2,none⟩ (.bool false)).setCell ⟨gl+1,3,none⟩ (.slice G6 g6 h6)=qst v9 (gl+1) 0 (decide (nq.num<0)) false G5 G6 g5 h5 g6 h6:=rfl;have HF:=Hj hfin;have HE:=Hj e8;have xw:IntKind.i64.wrap ((cN:Int)-1)=(cN:Int)-1:=IntWalk.i64_in _ (by omega);clear hfin e8 hBR8 hBL8 hb9 hX5 hX6 hY5 hY6 x0 x1 x2 x3 y0 y1 y2 y3 u0 u1 u2 u3 hBR7 hBL7 HSB;go_wp2;go_roundw
       case rel=>exact ⟨j+1,(cN:Int)-1,nq,G5,g5,h5,G6,g6,h6,by omega,rfl,hcI.out,Hj HR1E.out.symm,by rw [HRN.out];exact HF⟩
       case measure=>simp [intOf]
     ·have hVb:Blk ((((v6.setCell ⟨v5.heap.size,0,none⟩ (.bool (decide (mq.num<0)))).setCell ⟨v5.heap.size,1,none⟩ (.slice E5 e5 f5)).setCell ⟨v5.heap.size,2,none⟩ (.bool false)).setCell ⟨v5.heap.size,3,none⟩ (.slice E6 e6 f6)) (v5.heap.size) 42 #[.bool (decide (mq.num<0)),.slice E5 e5 f5,.bool false,.slice E6 e6 f6]:=hN6.put4 (o:=0);have hVc:WQ ((((v6.setCell ⟨v5.heap.size,0,none⟩ (.bool (decide (mq.num<0)))).setCell ⟨v5.heap.size,1,none⟩ (.slice E5 e5 f5)).setCell ⟨v5.heap.size,2,none⟩ (.bool false)).setCell ⟨v5.heap.size,3,none⟩ (.slice E6 e6 f6)) mq E5 e5 f5 E6 e6 f6:=WQ.put4 (o:=0) ⟨he5,he6,hV5,hV6⟩ hN6 NoInt.four;have hVk:Kp wr ((((v6.setCell ⟨v5.heap.size,0,none⟩ (.bool (decide (mq.num<0)))).setCell ⟨v5.heap.size,1,none⟩ (.slice E5 e5 f5)).setCell ⟨v5.heap.size,2,none⟩ (.bool false)).setCell ⟨v5.heap.size,3,none⟩ (.slice E6 e6 f6)):=kp_set4 hp6 (Below.size hp5) _ _ _ _;have hg9:gl+1<v5.heap.size:=Nat.lt_of_lt_of_le hBR.lt (by first|exact Nat.le_refl _|exact Below.size hp5|exact Below.size hp6);generalize (((v6.setCell ⟨v5.heap.size,0,none⟩ (.bool (decide (mq.num<0)))).setCell ⟨v5.heap.size,1,none⟩ (.slice E5 e5 f5)).setCell ⟨v5.heap.size,2,none⟩ (.bool false)).setCell ⟨v5.heap.size,3,none⟩ (.slice E6 e6 f6)=V at *;generalize hgg:v5.heap.size=g9 at *;have hBR9:=Kp.blk hVk hBR;have hBL9:=Kp.blk hVk hBL;have hlr:gl+1<wr.heap.size:=hBR.lt;have hgsr:gs<wr.heap.size:=by omega
      have hRS9:=HRS.out.below hVk;have hRT9:=HRT.out.below hVk;have hB9:Below w.heap.size w V:=HBB.out.trans (Below.mono hVk HBB.out.size);have t0:=(Below.cell hVk (p:=⟨gs,cN*4,none⟩) hgsr).trans s0;have t1:=(Below.cell hVk (p:=⟨gs,cN*4+1,none⟩) hgsr).trans s1;have t2:=(Below.cell hVk (p:=⟨gs,cN*4+2,none⟩) hgsr).trans s2;have t3:=(Below.cell hVk (p:=⟨gs,cN*4+3,none⟩) hgsr).trans s3;obtain ⟨a0,a1,a2,a3,-⟩:=hVb.four;have HAD:=Hj (fun W (hW:Kp V W)=>HADD.out W E5 E6 e5 f5 e6 f6 (HWY.out.below (Below.trans hVk (Below.mono hW (Below.size hVk)))) (hVc.below hW));have hVc9:=Hj hVc;have hRS9:=Hj hRS9;have s9:=Kp.refl V
      rename_i hHeld
      clear hHeld;clear FI HMIN HADD HS hp5 hp6 hW3 hW4 hk3 hk4 hVc s0 s1 s2 s3 sf0 sf1 sf2 sf3 cx
      (try clear z0 z1 z2 z3 z4 z5 z6 z7 hN6)
      (try clear hN5)
      clear hgg
      go_wp2_with fail
      go_region_with (first|(go_at_call 42;refine (HAD.out _ (Kp.drew s9)).mono ?_;rintro e v8 ⟨A5,k5,c5,A8',k8',c8',rfl,hk5,hk8',hW5,hW8',hF5',hF8',hb8⟩;have hp8:Kp V v8:=Kp.trans (Kp.drew s9) hb8;obtain ⟨_,_,_,_,_,_,i0,i1',i2',i3,i4,i5,i6,i7,-⟩:=(hRS9.out.below hp8).cells hcl;clear hb8))
      all_goals
       have e7:(((v8.setCell ⟨gs,cN*4,none⟩ (.bool (decide (sq.num<0)))).setCell ⟨gs,cN*4+1,none⟩ (.slice A5 k5 c5)).setCell ⟨gs,cN*4+2,none⟩ (.bool false)).setCell ⟨gs,cN*4+3,none⟩ (.slice A8' k8' c8')=qst v8 gs (cN*4) (decide (sq.num<0)) false A5 A8' k5 c5 k8' c8':=rfl;rw [e7];have hRow6:=hRS9.out.below hp8;have hRow7:=hRow6.put hcl hk5 hk8' hW5 hW8';rw [← HCS.out] at hRow7;obtain ⟨hk10,hk11⟩:=RQ.lens (show RQ v8 sq A5 k5 c5 A8' k8' c8' from ⟨hk5,hk8',hW5,hW8'⟩) HSL.out;have hsb:48*(s+1)+1+s+2≤100000000:=by have:=HSS.out.2;omega
       have hFR7:FrRow w.heap.size (qst v8 gs (cN*4) (decide (sq.num<0)) false A5 A8' k5 c5 k8' c8') gs n:=((HFR.out.below hVk).below hp8).put hcl hk5 hk8' (Wr.of hF5' hW5 (by first|exact hB9.size|exact Nat.le_trans hB9.size (Below.size (Kp.drew s9))) (by have:=Below.size hVk;first|omega|(show gs<V.heap.size;omega)) (by omega)) (Wr.of hF8' hW8' (by first|exact hB9.size|exact Nat.le_trans hB9.size (Below.size (Kp.drew s9))) (by have:=Below.size hVk;first|omega|(show gs<V.heap.size;omega)) (by omega));obtain ⟨hlen6,cs6,hbk6,hni6,-⟩:=hRow6;have hBR7:Blk (qst v8 gs (cN*4) (decide (sq.num<0)) false A5 A8' k5 c5 k8' c8') (gl+1) _ _:=(Kp.blk hp8 hBR9).far4 (by omega);have hBL7:Blk (qst v8 gs (cN*4) (decide (sq.num<0)) false A5 A8' k5 c5 k8' c8') gl _ _:=(Kp.blk hp8 hBL9).far4 (by omega);have hVb7:Blk (qst v8 gs (cN*4) (decide (sq.num<0)) false A5 A8' k5 c5 k8' c8') g9 _ _:=(Kp.blk hp8 hVb).far4 (by omega);have hRT7:=(hRT9.below hp8).far4 (o:=cN*4) (a:=decide (sq.num<0)) (b:=false) (A:=A5) (A':=A8') (k:=k5) (c:=c5) (k':=k8') (c':=c8') (by omega) hbk6 hni6;have hWQ7:=(WQ.below (WQ.below HWQ.out hVk) hp8).put4 (o:=cN*4) (a:=decide (sq.num<0)) (b:=false) (B:=A5) (B':=A8') (j:=k5) (d:=c5) (j':=k8') (d':=c8') hbk6 hni6;have hMQ7:=(hVc9.out.below hp8).put4 (o:=cN*4) (a:=decide (sq.num<0)) (b:=false) (B:=A5) (B':=A8') (j:=k5) (d:=c5) (j':=k8') (d':=c8') hbk6 hni6;have hB7:Below w.heap.size w (qst v8 gs (cN*4) (decide (sq.num<0)) false A5 A8' k5 c5 k8' c8'):=below_qst (hB9.trans (Below.mono hp8 hB9.size)) (by omega);generalize qst v8 gs (cN*4) (decide (sq.num<0)) false A5 A8' k5 c5 k8' c8'=W7 at *;have HSB:=Hj (HSUB.out W7 E5 E6 e5 f5 e6 f6 hWQ7 hMQ7);obtain ⟨x0,x1,x2,x3,y0,y1,y2,y3⟩:=hBR7.four;obtain ⟨u0,u1,u2,u3,-⟩:=hVb7.four;have HRW7:=Hj hRow7;have HRT7:=Hj hRT7;have HB7:=Hj hB7;have HFR7:=Hj hFR7;clear hFR7 hk10 hk11 hsb;clear e7 hW5 hW8' hF5' hF8' hbk6 hni6 i0 i1' i2' i3 i4 i5 i6 i7 t0 t1 t2 t3 a0 a1 a2 a3 hVb hRow7 hRT7 hB7 hWQ7 hMQ7 hVb7 hBR9 hBL9 hRT9 hp8 hB9 HAD
       go_wp2_with fail
       refine HSB.out.mono ?_;rintro e v9 ⟨G5,g5,h5,G6,g6,h6,rfl,hg5,hg6,hX5,hX6,hY5,hY6,hb9⟩;have hBR8:=hBR7.below hb9 hBR7.lt;have hBL8:=hBL7.below hb9 hBL7.lt;obtain ⟨l0,l1,l2,l3,m0',m1',m2',m3'⟩:=hBR8.four;have hfin:SrR w gl (gl+1) gt gs m n p q (some ⟨b5,o5,none⟩) c2 ts rn nq G5 g5 h5 G6 g6 h6 (qst v9 (gl+1) 0 (decide (nq.num<0)) false G5 G6 g5 h5 g6 h6):=by
        refine ⟨below_qst (HB7.out.trans (hb9.mono HB7.out.size)) (by omega),hBL8.far4 (by omega),hBR8.put4,?_,?_,?_,(HFR7.out.below hb9).far4 (by omega)⟩
        ·exact WQ.put4 ⟨hg5,hg6,hX5,hX6⟩ hBR8 NoInt.four
        ·exact (HRT7.out.below hb9).far4 (by omega) hBR8 NoInt.four
        ·exact (HRW7.out.below hb9).far4 (by omega) hBR8 NoInt.four
       have e8:(((v9.setCell ⟨gl+1,0,none⟩ (.bool (decide (nq.num<0)))).setCell ⟨gl+1,1,none⟩ (.slice G5 g5 h5)).setCell ⟨gl+1,2,none⟩ (.bool false)).setCell ⟨gl+1,3,none⟩ (.slice G6 g6 h6)=qst v9 (gl+1) 0 (decide (nq.num<0)) false G5 G6 g5 h5 g6 h6:=rfl;have HF:=Hj hfin;have HE:=Hj e8;have xw:IntKind.i64.wrap ((cN:Int)-1)=(cN:Int)-1:=IntWalk.i64_in _ (by omega);clear hfin e8 hBR8 hBL8 hb9 hX5 hX6 hY5 hY6 x0 x1 x2 x3 y0 y1 y2 y3 u0 u1 u2 u3 hBR7 hBL7 HSB;go_wp2;go_roundw
       case rel=>exact ⟨j+1,(cN:Int)-1,nq,G5,g5,h5,G6,g6,h6,by omega,rfl,hcI.out,Hj HR1E.out.symm,by rw [HRN.out];exact HF⟩
       case measure=>simp [intOf]
     ·have hVb:Blk ((((v6.setCell ⟨wr.heap.size,0,none⟩ (.bool (decide (mq.num<0)))).setCell ⟨wr.heap.size,1,none⟩ (.slice E5 e5 f5)).setCell ⟨wr.heap.size,2,none⟩ (.bool false)).setCell ⟨wr.heap.size,3,none⟩ (.slice E6 e6 f6)) (wr.heap.size) 42 #[.bool (decide (mq.num<0)),.slice E5 e5 f5,.bool false,.slice E6 e6 f6]:=hN6.put4 (o:=0);have hVc:WQ ((((v6.setCell ⟨wr.heap.size,0,none⟩ (.bool (decide (mq.num<0)))).setCell ⟨wr.heap.size,1,none⟩ (.slice E5 e5 f5)).setCell ⟨wr.heap.size,2,none⟩ (.bool false)).setCell ⟨wr.heap.size,3,none⟩ (.slice E6 e6 f6)) mq E5 e5 f5 E6 e6 f6:=WQ.put4 (o:=0) ⟨he5,he6,hV5,hV6⟩ hN6 NoInt.four;have hVk:Kp wr ((((v6.setCell ⟨wr.heap.size,0,none⟩ (.bool (decide (mq.num<0)))).setCell ⟨wr.heap.size,1,none⟩ (.slice E5 e5 f5)).setCell ⟨wr.heap.size,2,none⟩ (.bool false)).setCell ⟨wr.heap.size,3,none⟩ (.slice E6 e6 f6)):=kp_set4 hp6 (Nat.le_refl _) _ _ _ _;have hg9:gl+1<wr.heap.size:=Nat.lt_of_lt_of_le hBR.lt (by first|exact Nat.le_refl _|exact Below.size hp5|exact Below.size hp6);generalize (((v6.setCell ⟨wr.heap.size,0,none⟩ (.bool (decide (mq.num<0)))).setCell ⟨wr.heap.size,1,none⟩ (.slice E5 e5 f5)).setCell ⟨wr.heap.size,2,none⟩ (.bool false)).setCell ⟨wr.heap.size,3,none⟩ (.slice E6 e6 f6)=V at *;generalize hgg:wr.heap.size=g9 at *;have hBR9:=Kp.blk hVk hBR;have hBL9:=Kp.blk hVk hBL;have hlr:gl+1<wr.heap.size:=hBR.lt;have hgsr:gs<wr.heap.size:=by omega
      have hRS9:=HRS.out.below hVk;have hRT9:=HRT.out.below hVk;have hB9:Below w.heap.size w V:=HBB.out.trans (Below.mono hVk HBB.out.size);have t0:=(Below.cell hVk (p:=⟨gs,cN*4,none⟩) hgsr).trans s0;have t1:=(Below.cell hVk (p:=⟨gs,cN*4+1,none⟩) hgsr).trans s1;have t2:=(Below.cell hVk (p:=⟨gs,cN*4+2,none⟩) hgsr).trans s2;have t3:=(Below.cell hVk (p:=⟨gs,cN*4+3,none⟩) hgsr).trans s3;obtain ⟨a0,a1,a2,a3,-⟩:=hVb.four;have HAD:=Hj (fun W (hW:Kp V W)=>HADD.out W E5 E6 e5 f5 e6 f6 (HWY.out.below (Below.trans hVk (Below.mono hW (Below.size hVk)))) (hVc.below hW));have hVc9:=Hj hVc;have hRS9:=Hj hRS9;have s9:=Kp.refl V
      rename_i hHeld
      clear hHeld;clear FI HMIN HADD HS hp5 hp6 hW3 hW4 hk3 hk4 hVc s0 s1 s2 s3 sf0 sf1 sf2 sf3 cx
      (try clear z0 z1 z2 z3 z4 z5 z6 z7 hN6)
      (try clear hN5)
      clear hgg
      go_wp2_with fail
      go_region_with (first|(go_at_call 42;refine (HAD.out _ (Kp.drew s9)).mono ?_;rintro e v8 ⟨A5,k5,c5,A8',k8',c8',rfl,hk5,hk8',hW5,hW8',hF5',hF8',hb8⟩;have hp8:Kp V v8:=Kp.trans (Kp.drew s9) hb8;obtain ⟨_,_,_,_,_,_,i0,i1',i2',i3,i4,i5,i6,i7,-⟩:=(hRS9.out.below hp8).cells hcl;clear hb8))
      all_goals
       have e7:(((v8.setCell ⟨gs,cN*4,none⟩ (.bool (decide (sq.num<0)))).setCell ⟨gs,cN*4+1,none⟩ (.slice A5 k5 c5)).setCell ⟨gs,cN*4+2,none⟩ (.bool false)).setCell ⟨gs,cN*4+3,none⟩ (.slice A8' k8' c8')=qst v8 gs (cN*4) (decide (sq.num<0)) false A5 A8' k5 c5 k8' c8':=rfl;rw [e7];have hRow6:=hRS9.out.below hp8;have hRow7:=hRow6.put hcl hk5 hk8' hW5 hW8';rw [← HCS.out] at hRow7;obtain ⟨hk10,hk11⟩:=RQ.lens (show RQ v8 sq A5 k5 c5 A8' k8' c8' from ⟨hk5,hk8',hW5,hW8'⟩) HSL.out;have hsb:48*(s+1)+1+s+2≤100000000:=by have:=HSS.out.2;omega
       have hFR7:FrRow w.heap.size (qst v8 gs (cN*4) (decide (sq.num<0)) false A5 A8' k5 c5 k8' c8') gs n:=((HFR.out.below hVk).below hp8).put hcl hk5 hk8' (Wr.of hF5' hW5 (by first|exact hB9.size|exact Nat.le_trans hB9.size (Below.size (Kp.drew s9))) (by have:=Below.size hVk;first|omega|(show gs<V.heap.size;omega)) (by omega)) (Wr.of hF8' hW8' (by first|exact hB9.size|exact Nat.le_trans hB9.size (Below.size (Kp.drew s9))) (by have:=Below.size hVk;first|omega|(show gs<V.heap.size;omega)) (by omega));obtain ⟨hlen6,cs6,hbk6,hni6,-⟩:=hRow6;have hBR7:Blk (qst v8 gs (cN*4) (decide (sq.num<0)) false A5 A8' k5 c5 k8' c8') (gl+1) _ _:=(Kp.blk hp8 hBR9).far4 (by omega);have hBL7:Blk (qst v8 gs (cN*4) (decide (sq.num<0)) false A5 A8' k5 c5 k8' c8') gl _ _:=(Kp.blk hp8 hBL9).far4 (by omega);have hVb7:Blk (qst v8 gs (cN*4) (decide (sq.num<0)) false A5 A8' k5 c5 k8' c8') g9 _ _:=(Kp.blk hp8 hVb).far4 (by omega);have hRT7:=(hRT9.below hp8).far4 (o:=cN*4) (a:=decide (sq.num<0)) (b:=false) (A:=A5) (A':=A8') (k:=k5) (c:=c5) (k':=k8') (c':=c8') (by omega) hbk6 hni6;have hWQ7:=(WQ.below (WQ.below HWQ.out hVk) hp8).put4 (o:=cN*4) (a:=decide (sq.num<0)) (b:=false) (B:=A5) (B':=A8') (j:=k5) (d:=c5) (j':=k8') (d':=c8') hbk6 hni6;have hMQ7:=(hVc9.out.below hp8).put4 (o:=cN*4) (a:=decide (sq.num<0)) (b:=false) (B:=A5) (B':=A8') (j:=k5) (d:=c5) (j':=k8') (d':=c8') hbk6 hni6;have hB7:Below w.heap.size w (qst v8 gs (cN*4) (decide (sq.num<0)) false A5 A8' k5 c5 k8' c8'):=below_qst (hB9.trans (Below.mono hp8 hB9.size)) (by omega);generalize qst v8 gs (cN*4) (decide (sq.num<0)) false A5 A8' k5 c5 k8' c8'=W7 at *;have HSB:=Hj (HSUB.out W7 E5 E6 e5 f5 e6 f6 hWQ7 hMQ7);obtain ⟨x0,x1,x2,x3,y0,y1,y2,y3⟩:=hBR7.four;obtain ⟨u0,u1,u2,u3,-⟩:=hVb7.four;have HRW7:=Hj hRow7;have HRT7:=Hj hRT7;have HB7:=Hj hB7;have HFR7:=Hj hFR7;clear hFR7 hk10 hk11 hsb;clear e7 hW5 hW8' hF5' hF8' hbk6 hni6 i0 i1' i2' i3 i4 i5 i6 i7 t0 t1 t2 t3 a0 a1 a2 a3 hVb hRow7 hRT7 hB7 hWQ7 hMQ7 hVb7 hBR9 hBL9 hRT9 hp8 hB9 HAD
       go_wp2_with fail
       refine HSB.out.mono ?_;rintro e v9 ⟨G5,g5,h5,G6,g6,h6,rfl,hg5,hg6,hX5,hX6,hY5,hY6,hb9⟩;have hBR8:=hBR7.below hb9 hBR7.lt;have hBL8:=hBL7.below hb9 hBL7.lt;obtain ⟨l0,l1,l2,l3,m0',m1',m2',m3'⟩:=hBR8.four;have hfin:SrR w gl (gl+1) gt gs m n p q (some ⟨b5,o5,none⟩) c2 ts rn nq G5 g5 h5 G6 g6 h6 (qst v9 (gl+1) 0 (decide (nq.num<0)) false G5 G6 g5 h5 g6 h6):=by
        refine ⟨below_qst (HB7.out.trans (hb9.mono HB7.out.size)) (by omega),hBL8.far4 (by omega),hBR8.put4,?_,?_,?_,(HFR7.out.below hb9).far4 (by omega)⟩
        ·exact WQ.put4 ⟨hg5,hg6,hX5,hX6⟩ hBR8 NoInt.four
        ·exact (HRT7.out.below hb9).far4 (by omega) hBR8 NoInt.four
        ·exact (HRW7.out.below hb9).far4 (by omega) hBR8 NoInt.four
       have e8:(((v9.setCell ⟨gl+1,0,none⟩ (.bool (decide (nq.num<0)))).setCell ⟨gl+1,1,none⟩ (.slice G5 g5 h5)).setCell ⟨gl+1,2,none⟩ (.bool false)).setCell ⟨gl+1,3,none⟩ (.slice G6 g6 h6)=qst v9 (gl+1) 0 (decide (nq.num<0)) false G5 G6 g5 h5 g6 h6:=rfl;have HF:=Hj hfin;have HE:=Hj e8;have xw:IntKind.i64.wrap ((cN:Int)-1)=(cN:Int)-1:=IntWalk.i64_in _ (by omega);clear hfin e8 hBR8 hBL8 hb9 hX5 hX6 hY5 hY6 x0 x1 x2 x3 y0 y1 y2 y3 u0 u1 u2 u3 hBR7 hBL7 HSB;go_wp2;go_roundw
       case rel=>exact ⟨j+1,(cN:Int)-1,nq,G5,g5,h5,G6,g6,h6,by omega,rfl,hcI.out,Hj HR1E.out.symm,by rw [HRN.out];exact HF⟩
       case measure=>simp [intOf]
    ·obtain rfl:j=n:=by omega
     have d0:decide ((0:Int)≤ci)=false:=by have:=hci.out;simp;omega
     obtain ⟨hB,hBL,hBR,hWQ,hRT,hRS,hFR⟩:=hR.out;have HF:Hid (SrO w gt gs m j ts yn wr):=Hj ⟨hB,hRT,by rw [HSA.out];exact hRS,hFR⟩;clear hFR hB hBL hBR hWQ hRT hRS hR;go_wp2;go_roundw
     case rel=>exact ⟨i+1,by omega,by go_num,by rw [HYN.out];exact HF.out⟩
     case measure=>simp [intOf];omega
  ·obtain rfl:i=m:=by omega
   obtain ⟨hB,hRT,hRS,hFR⟩:=hR.out;have HFN:=Hj (And.intro hRS (And.intro hB hFR));clear hR hB hRT hRS hFR;go_wp2;go_ret2;exact ⟨gs,rfl,HFN.out.1,HFN.out.2.2,hgs,HFN.out.2.1⟩
end Go.Proofs.YtjajigkacccdgaaGreat
namespace Go.Proofs.YtjajigkacccdgaaGreat
open Go.RowKit
open Wd
def shP (lv:List St.Lv) (q:Rat):List Rat:=if wrC lv q=0 then qAll lv (prt lv 0).length q lv.length else []
def coP (lv:List St.Lv) (q:Rat):Rat:=if wrC lv q=0 then costAt (lvQ lv) q lv.length else 0
theorem wrC_ok {lv:List St.Lv} {q:Rat} (h:wrC lv q=0):chkL lv=0∧0≤q∧q≤((totI lv:Int):Rat):=by
 unfold wrC at h;by_cases hc:chkL lv=0
 ·rw [if_neg (by rw [hc];decide)] at h;by_cases hx:q<0∨((totI lv:Int):Rat)<q
  ·rw [if_pos hx] at h;exact absurd h (by decide)
  ·exact ⟨hc,by grind,by grind⟩
 ·rw [if_pos hc] at h;exact absurd h hc
theorem share_nilq (A:Option Addr) (c:Nat) (an an':Bool) (aA aA':Option Addr) (ak ac ak' ac':Nat) (q:Rat) (w:World) (hq:QS 7 w an aA ak ac an' aA' ak' ac' q) (h0:0≤q) (h1:q≤((totI []:Int):Rat)) :
  Calls Tryz.prog 31 #[.slice A 0 c,.agg #[.bool an,.slice aA ak ac,.bool an',.slice aA' ak' ac']] w fun e w'=>e=.returned (.tuple #[.slice none 0 0,.int .i64 0])∧Below w.heap.size w w':=by
 have hl:LvAt w A 0 0 []:=⟨rfl,fun h=>absurd rfl h⟩;have hv:VL true 0 []:=⟨by simp,by simp,by simp,by simp,by simp,by simp,by simp⟩;have h3:=wb_three;have h3s:=wb_mono (show 3≤7 by decide);have hwm:=wb_mul 7 7;have hws:WB 7≤WB (7+7+1):=wb_mono (by omega);have HF0:=Hj (fun W (hW:Below w.heap.size w W)=>fill_ok (WB (7+7+1)) (WB 7) (WB 7) (wb_ok (by omega)) (by omega) (by omega) (by omega) (by omega) (by omega) (by omega) (by omega) true A 0 0 c [] an an' aA aA' ak ac ak' ac' q W (hl.below hW) (hq.below hW) hv h0 h1);clear hl hv hq h0 h1 h3 h3s hwm hws;go_enter Tryz.func31,Tryz.ntmps31
 go_wp2_with fail
 obtain ⟨hB0,hBW,hsz⟩:=pre1 w 42 #[.bool an,.slice aA ak ac,.bool an',.slice aA' ak' ac'];generalize w.alloc (.cells #[.bool an,.slice aA ak ac,.bool an',.slice aA' ak' ac'] 42)=W at *;have HSZ:=Hj hsz;clear hsz;refine (HF0.out W hBW).mono ?_;rintro e w1 ⟨gt,ts,rfl,-,-,-,hb1⟩;have HB1:=Hj (hBW.trans (hb1.mono hBW.size));clear hb1 hBW;go_wp2;go_ret2;exact ⟨rfl,HB1.out⟩
theorem rshare_wr (A:Option Addr) (m c:Nat) (lv:List St.Lv) (w:World) (h:LsAt w A m lv) (an an':Bool) (aA aA':Option Addr) (ak ac ak' ac':Nat) (q:Rat) (hq:QS 7 w an aA ak ac an' aA' ak' ac' q) (x:Int) (hx:wrC lv q=x) (h0:x≠0∨m=0) :
  Calls Tryz.prog 25 #[.slice A m c,.agg #[.bool an,.slice aA ak ac,.bool an',.slice aA' ak' ac']] w fun e w'=>e=.returned (.tuple #[.slice none 0 0,.int .i64 x])∧Below w.heap.size w w':=by
 have TW:=Hj (fun W (hW:Below w.heap.size w W)=>(show Calls Tryz.prog 75 #[.slice A m c,.agg #[.bool an,.slice aA ak ac,.bool an',.slice aA' ak' ac']] W fun e w'=>e=.returned (.int .i64 x)∧Below W.heap.size W w' by rw [← hx];exact rwrong_any A m c lv W (h.below hW) an an' aA aA' ak ac ak' ac' q (hq.below hW)));clear h hq hx;by_cases hz:x=0
 ·have hm:m=0:=h0.resolve_left (fun e=>e hz);subst hm;subst hz;clear h0;go_enter Tryz.func25,Tryz.ntmps25
  go_wp2_with fail
  obtain ⟨hB0,hBW,hsz⟩:=pre1 w 42 #[.bool an,.slice aA ak ac,.bool an',.slice aA' ak' ac'];generalize w.alloc (.cells #[.bool an,.slice aA ak ac,.bool an',.slice aA' ak' ac'] 42)=W at *;have HSZ:=Hj hsz;clear hsz;obtain ⟨e0,e1,e2,e3,-⟩:=hB0.four;refine (TW.out W hBW).mono ?_;rintro e w1 ⟨rfl,hb1⟩;have HF:=Hj (hBW.trans (hb1.mono hBW.size));clear hb1 hB0 hBW TW e0 e1 e2 e3;go_wp2;go_ret2;exact ⟨rfl,HF.out⟩
 ·have dx:(x != 0)=true:=by simpa using hz
  clear h0 hz;go_enter Tryz.func25,Tryz.ntmps25
  go_wp2_with fail
  obtain ⟨hB0,hBW,hsz⟩:=pre1 w 42 #[.bool an,.slice aA ak ac,.bool an',.slice aA' ak' ac'];generalize w.alloc (.cells #[.bool an,.slice aA ak ac,.bool an',.slice aA' ak' ac'] 42)=W at *;have HSZ:=Hj hsz;clear hsz;obtain ⟨e0,e1,e2,e3,-⟩:=hB0.four;refine (TW.out W hBW).mono ?_;rintro e w1 ⟨rfl,hb1⟩;have HF:=Hj (hBW.trans (hb1.mono hBW.size));clear hb1 hB0 hBW TW e0 e1 e2 e3;go_wp2;go_ret2;exact ⟨rfl,HF.out⟩
def FrX (base:Nat) (w:World) (X:Option Addr) (n:Nat):Prop:=n=0∨∃ g,X=some ⟨g,0,none⟩∧base≤g∧FrRow base w g n
def ShQ (lv:List St.Lv) (q:Rat) (w:World) (e:Ending) (w':World):Prop:=∃ X xc,e=.returned (.tuple #[.slice X (shP lv q).length xc,.int .i64 (wrC lv q)])∧QsAt w' X (shP lv q).length (shP lv q)∧Below w.heap.size w w'
def ShF (lv:List St.Lv) (q:Rat) (w:World) (e:Ending) (w':World):Prop:=∃ X xc,e=.returned (.tuple #[.slice X (shP lv q).length xc,.int .i64 (wrC lv q)])∧QsAt w' X (shP lv q).length (shP lv q)∧FrX w.heap.size w' X (shP lv q).length∧Below w.heap.size w w'
def CoQ (lv:List St.Lv) (q:Rat) (w:World) (e:Ending) (w':World):Prop:=∃ A k c A' k' c',e=.returned (.tuple #[.agg #[.bool (decide ((coP lv q).num<0)),.slice A k c,.bool false,.slice A' k' c'],.int .i64 (wrC lv q)])∧RQ w' (coP lv q) A k c A' k' c'∧Below w.heap.size w w'
section
variable {A:Option Addr} {m c:Nat} {lv:List St.Lv} {w:World} {an an':Bool} {aA aA':Option Addr} {ak ac ak' ac':Nat} {q:Rat}
theorem shP_bad (h:wrC lv q≠0):shP lv q=[]:=by unfold shP;rw [if_neg h]
theorem shP_nil (q:Rat):shP [] q=[]:=by
 unfold shP;split
 ·rfl
 ·rfl
theorem shP_ok (h:wrC lv q=0):shP lv q=qAll lv (prt lv 0).length q lv.length:=by unfold shP;rw [if_pos h]
theorem shP_len (h:wrC lv q=0):(shP lv q).length=(prt lv 0).length:=by rw [shP_ok h,qAll_len]
theorem share_p (h:LsAt w A m lv) (hq:QS 7 w an aA ak ac an' aA' ak' ac' q):Calls Tryz.prog 31 #[.slice A m c,.agg #[.bool an,.slice aA ak ac,.bool an',.slice aA' ak' ac']] w (ShF lv q w):=by
 by_cases hc:wrC lv q=0
 ·obtain ⟨h1,h2,h3⟩:=wrC_ok hc;by_cases hm:m=0
  ·subst hm;have e:lv=[]:=List.eq_nil_of_length_eq_zero h.1;subst e;refine (share_nilq A c an an' aA aA' ak ac ak' ac' q w hq h2 h3).mono ?_;rintro e w' ⟨rfl,hb⟩;refine ⟨none,0,by rw [hc,shP_nil];rfl,?_,.inl (by rw [shP_nil];rfl),hb⟩;rw [shP_nil];exact ⟨rfl,fun h=>absurd rfl h⟩
  ·obtain ⟨up,hv⟩:=chkL_VL h1;refine (share_fr (s:=7) (by decide) (by decide) up A m _ c lv q an an' aA aA' ak ac ak' ac' w (h.lv h1) hv hq h2 h3 hm).mono ?_;rintro e w' ⟨g,rfl,hr,hf,hg,hb⟩;have hr2:=hr.at
   rw [← h.1,← shP_ok hc] at hr2;refine ⟨some ⟨g,0,none⟩,_,by rw [shP_len hc,hc],by rw [shP_len hc];exact hr2,.inr ⟨g,rfl,hg,by rw [shP_len hc];exact hf⟩,hb⟩
 ·refine (share_wr A m c lv w h an an' aA aA' ak ac ak' ac' q hq.arg _ rfl hc).mono ?_;rintro e w' ⟨rfl,hb⟩;refine ⟨none,0,by rw [shP_bad hc];rfl,?_,.inl (by rw [shP_bad hc];rfl),hb⟩;rw [shP_bad hc];exact ⟨rfl,fun h=>absurd rfl h⟩
theorem rshare_p (h:LsAt w A m lv) (hq:QS 7 w an aA ak ac an' aA' ak' ac' q):Calls Tryz.prog 25 #[.slice A m c,.agg #[.bool an,.slice aA ak ac,.bool an',.slice aA' ak' ac']] w (ShQ lv q w):=by
 by_cases hc:wrC lv q≠0∨m=0
 ·have e:shP lv q=[]:=by
   rcases hc with hc|hc
   ·exact shP_bad hc
   ·have e:lv=[]:=List.eq_nil_of_length_eq_zero (by rw [h.1,hc]);rw [e];exact shP_nil q
  refine (rshare_wr A m c lv w h an an' aA aA' ak ac ak' ac' q hq _ rfl hc).mono ?_;rintro e' w' ⟨rfl,hb⟩;refine ⟨none,0,by rw [e];rfl,?_,hb⟩;rw [e];exact ⟨rfl,fun h=>absurd rfl h⟩
 ·have hc0:wrC lv q=0:=Decidable.byContradiction fun e=>hc (.inl e);have hm:m≠0:=fun e=>hc (.inr e);obtain ⟨h1,h2,h3⟩:=wrC_ok hc0;obtain ⟨up,hv⟩:=chkL_VL h1;refine (rshare_ok up A m _ c lv w h (h.lv h1) hv an an' aA aA' ak ac ak' ac' q hq hc0 h2 hm).mono ?_;rintro e w' ⟨g,rfl,hr,-,hb⟩;have hr2:=hr.at
  rw [← h.1,← shP_ok hc0] at hr2;exact ⟨some ⟨g,0,none⟩,_,by rw [shP_len hc0,hc0],by rw [shP_len hc0];exact hr2,hb⟩
theorem coP_bad (h:wrC lv q≠0):coP lv q=0:=by unfold coP;rw [if_neg h]
theorem coP_ok (h:wrC lv q=0):coP lv q=costAt (lvQ lv) q lv.length:=by unfold coP;rw [if_pos h]
theorem coq_bad {e:Ending} {w':World} (hc:wrC lv q≠0) (h:ErrQ w (wrC lv q) e w'):CoQ lv q w e w':=by
 obtain ⟨rfl,hb⟩:=h;refine ⟨none,0,0,none,0,0,by rw [coP_bad hc];rfl,?_,hb⟩;rw [coP_bad hc];exact (CQ.zero (base:=0) (w:=w')).wq
theorem cost_p (h:LsAt w A m lv) (hq:QS 7 w an aA ak ac an' aA' ak' ac' q):Calls Tryz.prog 32 #[.slice A m c,.agg #[.bool an,.slice aA ak ac,.bool an',.slice aA' ak' ac']] w (CoQ lv q w):=by
 by_cases hc:wrC lv q=0
 ·obtain ⟨h1,h2,h3⟩:=wrC_ok hc;obtain ⟨up,hv⟩:=chkL_VL h1;have h3':=wb_three;have h3s:=wb_mono (show 3≤7 by decide);have hp:=partAt_ls (s:=7) (by decide) hv h2 hq.ls;refine (kcost_ok (WB (2*(48*(7+6)+1)+1)) (WB 7) (WB 7) (WB (48*(7+6)+1)) (WB (48*(7+6)+1)) (wb_ok (by omega)) (by omega) up A m _ c lv an an' aA aA' ak ac ak' ac' q w (h.lv h1) hq hv h2 h3 (costOK_s (by decide) (by decide) (by rw [lvQ_len];have:=hv.len;omega) (fun k hk=>(hp k (by rw [lvQ_len] at hk;exact hk)).2) fun x hx=>by have:=hv.prQ x hx;omega)).mono ?_;rintro e w' ⟨A1,k1,c1,A2,k2,c2,rfl,hcq,hb⟩;have e2:coP lv q=costAt (lvQ lv) q m:=by rw [coP_ok hc,h.1]
  exact ⟨A1,k1,c1,A2,k2,c2,by rw [e2,hc],by rw [e2];exact hcq.wq,hb⟩
 ·exact (cost_wr A m c lv w h an an' aA aA' ak ac ak' ac' q hq.arg _ rfl hc).mono fun e w' he=>coq_bad hc he
theorem rcost_p (h:LsAt w A m lv) (hq:QS 7 w an aA ak ac an' aA' ak' ac' q):Calls Tryz.prog 26 #[.slice A m c,.agg #[.bool an,.slice aA ak ac,.bool an',.slice aA' ak' ac']] w (CoQ lv q w):=by
 by_cases hc:wrC lv q=0
 ·obtain ⟨h1,h2,h3⟩:=wrC_ok hc;obtain ⟨up,hv⟩:=chkL_VL h1;refine (rcost24_ok up A m _ c lv w h (h.lv h1) hv an an' aA aA' ak ac ak' ac' q hq hc h2).mono ?_;rintro e w' ⟨A1,k1,c1,A2,k2,c2,rfl,hcq,hb⟩;have e2:coP lv q=costAt (lvQ lv) q m:=by rw [coP_ok hc,h.1]
  exact ⟨A1,k1,c1,A2,k2,c2,by rw [e2,hc],by rw [e2];exact hcq,hb⟩
 ·exact (rcost_wr A m c lv w h an an' aA aA' ak ac ak' ac' q hq _ rfl hc).mono fun e w' he=>coq_bad hc he
theorem shP_ls (hq:Ls 7 q):∀ p∈shP lv q,(digs p.num.natAbs).length≤1000000∧(denW p.den).length≤1000000:=fun p hp=>by
 by_cases hc:wrC lv q=0
 ·obtain ⟨h1,h2,h3⟩:=wrC_ok hc;obtain ⟨up,hv⟩:=chkL_VL h1;rw [shP_ok hc] at hp;obtain ⟨j,hj,rfl⟩:=List.getElem_of_mem hp;have hjn:j<(prt lv 0).length:=by rw [qAll_len] at hj;exact hj
  have hl:=qAll_ls (s:=7) (by decide) hv (partAt_ls (s:=7) (by decide) hv h2 hq) (k:=lv.length) (Nat.le_refl _) hjn;rw [List.getElem?_eq_getElem hj] at hl;have hl2:Ls 1000 ((qAll lv (prt lv 0).length q lv.length)[j]):=hl.mono (by have:=Nat.mul_le_mul_right (7+1) hv.len;omega);have a:=digs_len_le.2 hl2.1;have b:=digs_len_le.2 hl2.2;refine ⟨by omega,?_⟩;unfold denW;split
  ·simp
  ·omega
 ·rw [shP_bad hc] at hp;exact absurd hp (by simp)
theorem coP_ls (hq:Ls 7 q):Ls 700 (coP lv q):=by
 by_cases hc:wrC lv q=0
 ·obtain ⟨h1,h2,h3⟩:=wrC_ok hc;obtain ⟨up,hv⟩:=chkL_VL h1;rw [coP_ok hc];exact (kcost_ls (s:=7) (by decide) rfl hv h2 hq).mono (by decide)
 ·rw [coP_bad hc];exact ls_zero _ (by decide)
end
end Go.Proofs.YtjajigkacccdgaaGreat
