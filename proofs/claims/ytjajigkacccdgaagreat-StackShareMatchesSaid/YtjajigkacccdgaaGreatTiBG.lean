/-
Lemmas of the walk; no further conditions.
-/
import Derived.Test.YtjajigkacccdgaaGreatTiBF
set_option linter.unusedVariables false
set_option linter.unusedSimpArgs false
set_option maxRecDepth 100000
set_option maxHeartbeats 16000000
namespace Go.Proofs.YtjajigkacccdgaaGreat
open Go.RowKit
open Wd
def RcO (w:World) (ga gm gl:Nat) (sm r:Rat) (wr:World):Prop:=Below w.heap.size w wr∧Blk wr ga 42 #[.bool false,.slice none 0 0,.bool false,.slice none 0 0]∧(∃ A k c A' k' c',Blk wr gm 42 #[.bool (decide (sm.num<0)),.slice A k c,.bool false,.slice A' k' c']∧RQ wr sm A k c A' k' c')∧(∃ A k c A' k' c',Blk wr gl 42 #[.bool (decide (r.num<0)),.slice A k c,.bool false,.slice A' k' c']∧RQ wr r A k c A' k' c')
def Vq9 (q:Rat) (v:Value) (w:World):Prop:=∃ A k c A' k' c',v=.agg #[.bool (decide (q.num<0)),.slice A k c,.bool false,.slice A' k' c']∧RQ w q A k c A' k' c'
theorem Vq9.stay (q:Rat):Stay (Vq9 q):=fun _ _ _ ⟨A,k,c,A',k',c',h1,h2⟩ hk=>⟨A,k,c,A',k',c',h1,h2.below hk⟩
theorem rcost_wr (A:Option Addr) (m c:Nat) (lv:List St.Lv) (w:World) (h:LsAt w A m lv) (an an':Bool) (aA aA':Option Addr) (ak ac ak' ac':Nat) (q:Rat) (hq:QS 7 w an aA ak ac an' aA' ak' ac' q) (x:Int) (hx:wrC lv q=x) (h0:x≠0) :
  Calls Tryz.prog 26 #[.slice A m c,.agg #[.bool an,.slice aA ak ac,.bool an',.slice aA' ak' ac']] w (ErrQ w x):=by
 have TW:=Hj (fun W (hW:Below w.heap.size w W)=>(show Calls Tryz.prog 75 #[.slice A m c,.agg #[.bool an,.slice aA ak ac,.bool an',.slice aA' ak' ac']] W fun e w'=>e=.returned (.int .i64 x)∧Below W.heap.size W w' by rw [← hx];exact rwrong_any A m c lv W (h.below hW) an an' aA aA' ak ac ak' ac' q (hq.below hW)));have dx:(x != 0)=true:=by simpa using h0
 unfold ErrQ;clear h hq hx h0;go_enter Tryz.func26,Tryz.ntmps26
 go_wp2_with fail
 obtain ⟨hB0,hB1,hBW,hsz⟩:=pre2 w 42 #[.bool an,.slice aA ak ac,.bool an',.slice aA' ak' ac'] 42 #[.bool false,.slice none 0 0,.bool false,.slice none 0 0];generalize (w.alloc (.cells #[.bool an,.slice aA ak ac,.bool an',.slice aA' ak' ac'] 42)).alloc (.cells #[.bool false,.slice none 0 0,.bool false,.slice none 0 0] 42)=W at *;have HSZ:=Hj hsz;clear hsz;obtain ⟨e0,e1,e2,e3,-⟩:=hB0.four;refine (TW.out W hBW).mono ?_;rintro e w1 ⟨rfl,hb1⟩;clear e0 e1 e2 e3;have hr:=(RS4.start hB1).call hb1;obtain ⟨_,_,_,_,c0,c1,c2,c3,f0,f1,f2,f3⟩:=hr.four;obtain ⟨d0,d1,d2,d3,-,-,-,-⟩:=(hr.done (.bool false) (.slice none 0 0) (.bool false) (.slice none 0 0)).four;have HF:=Hj (below_set4 (g:=w.heap.size+1) (hBW.trans (hb1.mono hBW.size)) (by omega) (.bool false) (.slice none 0 0) (.bool false) (.slice none 0 0));clear hr hb1 hB0 hB1 hBW TW;go_wp2;refine bodyPost_ret (v:=.tuple #[.agg #[.bool false,.slice none 0 0,.bool false,.slice none 0 0],.int .i64 x]) ?_ rfl ⟨rfl,HF.out⟩;simp [results,Tryz.results26,go_sem,d0,d1,d2,d3]
theorem rcost24_ok (up:Bool) (A:Option Addr) (m n c:Nat) (lv:List St.Lv) (w:World) (hs:LsAt w A m lv) (h:LvAt w A m n lv) (hv:VL up n lv) (an an':Bool) (aA aA':Option Addr) (ak ac ak' ac':Nat) (q:Rat) (hq:QS 7 w an aA ak ac an' aA' ak' ac' q) (hc:wrC lv q=0) (h0:0≤q) :
  Calls Tryz.prog 26 #[.slice A m c,.agg #[.bool an,.slice aA ak ac,.bool an',.slice aA' ak' ac']] w fun e w'=>∃ A k c A' k' c',e=.returned (.tuple #[.agg #[.bool (decide ((costAt (lvQ lv) q m).num<0)),.slice A k c,.bool false,.slice A' k' c'],.int .i64 0])∧RQ w' (costAt (lvQ lv) q m) A k c A' k' c'∧Below w.heap.size w w':=by
 have hl:=h.1;have hm:m≤48:=by have:=hv.len;omega
 have hsz:=hq.ls;have TW:=Hj (fun W (hW:Below w.heap.size w W)=>(show Calls Tryz.prog 75 #[.slice A m c,.agg #[.bool an,.slice aA ak ac,.bool an',.slice aA' ak' ac']] W fun e w'=>e=.returned (.int .i64 0)∧Below W.heap.size W w' by rw [← hc];exact rwrong_any A m c lv W (hs.below hW) an an' aA aA' ak ac ak' ac' q (hq.below hW)));have TL0:=Hj (fun W (hW:Below w.heap.size w W)=>rleastq_s (s:=7) (by decide) an an' aA aA' ak ac ak' ac' q W (hq.below hW));have TZ:=Hj (fun W=>(rint_any 0 W (by omega) (by omega):Calls Tryz.prog 37 #[.int .i64 0] W (RetQ W ((0:Int):Rat))));rw [show ((0:Int):Rat)=0 from rfl] at TZ;have hpb:=partAt_ls (s:=7) (by decide) hv h0 hsz;have HCB:=Hj (fun k (hk:k≤lv.length)=>(show Ls 700 (costAt (lvQ lv) q k) from (costAt_ls (fun k hk=>(hpb k (by rw [lvQ_len] at hk;exact hk)).2) (fun x hx=>by have:=hv.prQ x hx;omega) k (by rw [lvQ_len];exact hk)).mono (by have:=Nat.mul_le_mul_right (7+6) (show k≤48 by omega);omega)));have HRB:=Hj (fun k (hk:k≤lv.length)=>restL_bd h0 hv.okQ hsz.1 hsz.2 k (by rw [lvQ_len];exact hk));have HL:=Hj h;have HV:=Hj hv;have HLN:=Hj hl;clear h hv hq hl h0 hsz hs hc hpb;go_enter Tryz.func26,Tryz.ntmps26
 go_wp2_with fail
 obtain ⟨hB0,hB1,hBW,hsz⟩:=pre2 w 42 #[.bool an,.slice aA ak ac,.bool an',.slice aA' ak' ac'] 42 #[.bool false,.slice none 0 0,.bool false,.slice none 0 0];generalize (w.alloc (.cells #[.bool an,.slice aA ak ac,.bool an',.slice aA' ak' ac'] 42)).alloc (.cells #[.bool false,.slice none 0 0,.bool false,.slice none 0 0] 42)=W at *;have HSZ:=Hj hsz;clear hsz;obtain ⟨e0,e1,e2,e3,-⟩:=hB0.four;refine (TW.out W hBW).mono ?_;rintro e w1 ⟨rfl,hb1⟩;clear e0 e1 e2 e3;have HB0:=Hj (hB0.below hb1 hB0.lt);have HA:=Hj (hB1.below hb1 hB1.lt);have HBW:=Hj (hBW.trans (hb1.mono hBW.size));have TL:=Hj (fun U (hU:Kp w1 U)=>TL0.out U (HBW.out.trans (Below.mono hU HBW.out.size)));clear hb1 hB0 hB1 hBW TW TL0
 go_wp2_with fail
 have HS:=Hj (show ∀ w',Kp w1 w'→(w'.cell? ⟨w.heap.size,0,none⟩=some (.bool an)∧w'.cell? ⟨w.heap.size,1,none⟩=some (.slice aA ak ac)∧w'.cell? ⟨w.heap.size,2,none⟩=some (.bool an')∧w'.cell? ⟨w.heap.size,3,none⟩=some (.slice aA' ak' ac'))∧Kp w1 w' from fun w' hk=>⟨⟨(Kp.blk hk HB0.out).cell 0,(Kp.blk hk HB0.out).cell 1,(Kp.blk hk HB0.out).cell 2,(Kp.blk hk HB0.out).cell 3⟩,hk⟩);refine wp_region_gather 5 2 (fun f=>⟨#[.slice A m c,Value.agg #[Value.bool an,Value.slice aA ak ac,Value.bool an',Value.slice aA' ak' ac'],undef,.pointer (some ⟨w.heap.size,0,none⟩),.pointer (some ⟨w.heap.size+1,0,none⟩),.int .i64 0,.int .i64 0,f 3,f 4,undef,undef,.slice A m c,Value.agg #[Value.bool an,Value.slice aA ak ac,Value.bool an',Value.slice aA' ak' ac'],.int .i64 0,.int .i64 0,.bool false,undef,undef,f 0,f 1,f 2,undef,undef,undef,undef,undef,undef,undef,undef,undef,undef,undef,undef,undef,undef,undef,undef,undef,undef,undef,undef,undef,undef,undef,undef,undef,undef,undef,undef],[]⟩) (fun _=>undef) (Vr [Vq9 0,Vis (Value.agg #[Value.bool an,Value.slice aA ak ac,Value.bool an',Value.slice aA' ak' ac']),Vq9 q,Vb w1 42 #[.bool false,.slice none 0 0,.bool false,.slice none 0 0],Vb w1 42 #[.bool false,.slice none 0 0,.bool false,.slice none 0 0]]) (fun i j v u=>(i=3∨i=4)→(j=3∨j=4)→v≠u) (fun w'=>(w'.cell? ⟨w.heap.size,0,none⟩=some (.bool an)∧w'.cell? ⟨w.heap.size,1,none⟩=some (.slice aA ak ac)∧w'.cell? ⟨w.heap.size,2,none⟩=some (.bool an')∧w'.cell? ⟨w.heap.size,3,none⟩=some (.slice aA' ak' ac'))∧Kp w1 w') Kp (by kernel_rfl) (by kernel_rfl) rfl (HS.out _ (Kp.drew (Kp.refl w1))) (Vr.keep (by simp only [List.forall_mem_cons];exact ⟨Vq9.stay _,Vis.stay _,Vq9.stay _,Vb.stay _ _ _,Vb.stay _ _ _,fun _ h=>by cases h⟩)) ?step ?fin
 case step =>
  intro i hi f w' K hS hn hK;rcases (show i=0∨i=1∨i=2∨i=3∨i=4 by omega) with rfl|rfl|rfl|rfl|rfl
  ·refine wpOp_step rfl (fun K' hK'=>?_);have HK':=Hj hK';clear hK';obtain ⟨-,hkp⟩:=hS;go_simp;refine (TZ.out _).mono ?_;rintro e v1 ⟨A1,k1,c1,A2,k2,c2,rfl,hk1,hk2,hW1,hW2,-,-,hb1⟩
   (try (go_wp2_with fail))
   exact HK'.out _ _ (hK _ v1 (HS.out _ (Kp.trans hkp hb1)) hb1 (show Vq9 0 _ _ from ⟨A1,k1,c1,A2,k2,c2,rfl,hk1,hk2,hW1,hW2⟩) (fun _ _ _ h=>absurd h (by decide)))
  ·refine wpOp_step rfl (fun K' hK'=>?_);obtain ⟨⟨a0,a1,a2,a3⟩,hkp⟩:=hS;go_simp;exact hK' _ _ (hK _ w' (HS.out _ hkp) (Kp.refl w') (show Vis (Value.agg #[Value.bool an,Value.slice aA ak ac,Value.bool an',Value.slice aA' ak' ac']) (Value.agg #[Value.bool an,Value.slice aA ak ac,Value.bool an',Value.slice aA' ak' ac']) w' from rfl) (fun _ _ _ h=>absurd h (by decide)))
  ·have E1:Hid (f 1=Value.agg #[Value.bool an,Value.slice aA ak ac,Value.bool an',Value.slice aA' ak' ac']):=Hj (hn 1 (List.mem_of_elem_eq_true (by kernel_rfl)));refine wpOp_step rfl (fun K' hK'=>?_);have HK':=Hj hK';clear hK';obtain ⟨-,hkp⟩:=hS;go_simp;refine (call_via (TL.out _ hkp) (by rw [E1.out])).mono ?_;rintro e v1 ⟨A1,k1,c1,A2,k2,c2,rfl,hk1,hk2,hW1,hW2,-,-,hb1⟩
   (try (go_wp2_with fail))
   exact HK'.out _ _ (hK _ v1 (HS.out _ (Kp.trans hkp hb1)) hb1 (show Vq9 q _ _ from ⟨A1,k1,c1,A2,k2,c2,rfl,hk1,hk2,hW1,hW2⟩) (fun _ _ _ h=>absurd h (by decide)))
  ·refine wpOp_step rfl (fun K' hK'=>?_);obtain ⟨-,hkp⟩:=hS;go_simp;have hb:=kp_new (cur:=w') (o:=.cells #[.bool false,.slice none 0 0,.bool false,.slice none 0 0] 42) rfl;exact hK' _ _ (hK _ _ (HS.out _ (Kp.trans hkp hb)) hb (show Vb w1 _ _ _ _ from ⟨_,rfl,Blk.new _ _ _,Below.size hkp⟩) (fun j u hu _ hj=>by
    have hu':Vb w1 42 #[.bool false,.slice none 0 0,.bool false,.slice none 0 0] u w':=by rcases hj with rfl|rfl<;>exact hu
    obtain ⟨g,rfl,hg,-⟩:=hu';have:=hg.lt;intro h
    (try simp at h)
    (try omega)))
  ·refine wpOp_step rfl (fun K' hK'=>?_);obtain ⟨-,hkp⟩:=hS;go_simp;have hb:=kp_new (cur:=w') (o:=.cells #[.bool false,.slice none 0 0,.bool false,.slice none 0 0] 42) rfl;exact hK' _ _ (hK _ _ (HS.out _ (Kp.trans hkp hb)) hb (show Vb w1 _ _ _ _ from ⟨_,rfl,Blk.new _ _ _,Below.size hkp⟩) (fun j u hu _ hj=>by
    have hu':Vb w1 42 #[.bool false,.slice none 0 0,.bool false,.slice none 0 0] u w':=by rcases hj with rfl|rfl<;>exact hu
    obtain ⟨g,rfl,hg,-⟩:=hu';have:=hg.lt;intro h
    (try simp at h)
    (try omega)))
 case fin =>
  intro f w' hS hv hd;obtain ⟨X1,x2,x3,X4,x5,x6,e0,r0⟩:=(show Vq9 0 (f 0) w' from hv 0 (by omega));obtain ⟨Y1,y2,y3,Y4,y5,y6,e2,r2⟩:=(show Vq9 q (f 2) w' from hv 2 (by omega));obtain ⟨gm,e3,B3,hg3⟩:=(show Vb w1 _ _ (f 3) w' from hv 3 (by omega));obtain ⟨gl,e4,B4,hg4⟩:=(show Vb w1 _ _ (f 4) w' from hv 4 (by omega));have hne:gm≠gl:=by
   rintro rfl;rcases hd 3 4 (by omega) (by omega) (by omega) with h|h
   ·exact h (.inl rfl) (.inr rfl) (e3.trans e4.symm)
   ·exact h (.inr rfl) (.inl rfl) (e4.trans e3.symm)
  have hp:=hS.2;clear hS hv hd;simp only [e0,e2,e3,e4];have hne1:¬ gm=gl:=hne;have hne2:¬ gl=gm:=fun e=>hne e.symm;obtain ⟨p0,p1,p2,p3,f0,f1,f2,f3⟩:=B3.four;refine wpAny_ready (rs:=[5]) (by kernel_rfl) (by simp) ?_;refine AllReady.cons rfl (fun K hK=>?_) AllReady.nil
  (try simp only [p1,p2,p3])
  go_simp;refine hK _ _ ?_;clear hK K
  (try simp only [Act.put,p1,p2,p3,p4,p5,p6])
  obtain ⟨p0',p1',p2',p3',f0',f1',f2',f3'⟩:=B4.four;refine wpAny_ready (rs:=[6]) (by kernel_rfl) (by simp) ?_;refine AllReady.cons rfl (fun K hK=>?_) AllReady.nil
  (try simp only [p1,p2,p3])
  go_simp;refine hK _ _ ?_;clear hK K
  (try simp only [Act.put,p1,p2,p3,p4,p5,p6])
  refine wpAny_done (by kernel_rfl) ?_ _;have hfin:RcO w (w.heap.size+1) gm gl 0 q (((((((((w'.setCell ⟨gm,0,none⟩ (.bool false)).setCell ⟨gm,1,none⟩ (.slice X1 x2 x3)).setCell ⟨gm,2,none⟩ (.bool false)).setCell ⟨gm,3,none⟩ (.slice X4 x5 x6)).setCell ⟨gl,0,none⟩ (.bool (decide (q.num<0)))).setCell ⟨gl,1,none⟩ (.slice Y1 y2 y3)).setCell ⟨gl,2,none⟩ (.bool false)).setCell ⟨gl,3,none⟩ (.slice Y4 y5 y6))):=by
   show RcO w (w.heap.size+1) gm gl 0 q (qst (qst w' gm 0 (decide ((0:Rat).num<0)) false X1 X4 x2 x3 x5 x6) gl 0 (decide (q.num<0)) false Y1 Y4 y2 y3 y5 y6);have b4:Blk (qst w' gm 0 (decide ((0:Rat).num<0)) false X1 X4 x2 x3 x5 x6) gl _ _:=B4.far4 hne2;have ha:=Kp.blk hp HA.out;have hgl:=HA.out.lt;refine ⟨below_qst (below_qst (HBW.out.trans (Below.mono hp HBW.out.size)) (by have:=HBW.out.size;omega)) (by have:=HBW.out.size;omega),(ha.far4 (by omega)).far4 (by omega),⟨X1,x2,x3,X4,x5,x6,(B3.put4 (o:=0) (a:=decide ((0:Rat).num<0)) (b:=false)).far4 hne1,(r0.put4 B3 NoInt.four).put4 b4 NoInt.four⟩,⟨Y1,y2,y3,Y4,y5,y6,b4.put4,(r2.put4 B3 NoInt.four).put4 b4 NoInt.four⟩⟩
  generalize ((((((((w'.setCell ⟨gm,0,none⟩ (.bool false)).setCell ⟨gm,1,none⟩ (.slice X1 x2 x3)).setCell ⟨gm,2,none⟩ (.bool false)).setCell ⟨gm,3,none⟩ (.slice X4 x5 x6)).setCell ⟨gl,0,none⟩ (.bool (decide (q.num<0)))).setCell ⟨gl,1,none⟩ (.slice Y1 y2 y3)).setCell ⟨gl,2,none⟩ (.bool false)).setCell ⟨gl,3,none⟩ (.slice Y4 y5 y6))=V at *;have HST:=Hj hfin;have HNE:=Hj (And.intro hne (And.intro (Nat.lt_of_lt_of_le HA.out.lt hg3) (Nat.lt_of_lt_of_le HA.out.lt hg4)));clear hfin hne hne1 hne2 p0 p1 p2 p3 f0 f1 f2 f3 p0' p1' p2' p3' f0' f1' f2' f3' B3 B4 hg3 hg4 hp r0 r2 HS e0 e2 e3 e4 TZ TL HB0 HA HBW
  go_wp2_with fail
  obtain ⟨ga,hga⟩:∃ x,x=w.heap.size+1:=⟨_,rfl⟩;rw [← hga] at HST HNE;rw [← hga];have HGE:=Hj (show w.heap.size≤ga by omega);clear hga
  go_loopw [9] (fun t wr=>∃ i:Nat,i≤m∧t=.int .i64 i∧Hid (RcO w ga gm gl (costAt (lvQ lv) q i) (restAt (lvQ lv) q i) wr)) (fun t _=>m-(intOf t).toNat)
  case atStart=>exact ⟨0,Nat.zero_le _,rfl,HST⟩
  case round =>
   clear HST;obtain ⟨i,hi,rfl,hR0⟩:=hrel;obtain ⟨hB,hba,⟨R5,r5,s5,R6,r6,s6,hbm,hqm⟩,⟨A5,k5,c5,A6,k6,c6,hbl,hql⟩⟩:=hR0.out;by_cases hlt:i<m
   ·obtain ⟨b,o,rfl,hb,hcell⟩:=HL.out.2 (by omega);obtain ⟨A0,c0,⟨y0,y1,-⟩,-⟩:=hcell i hlt;replace y0:=(hB.cell (p:=⟨b,o+i*3,none⟩) hb).trans y0;replace y1:=(hB.cell (p:=⟨b,o+i*3+1,none⟩) hb).trans y1;have hbr:b<wr.heap.size:=Nat.lt_of_lt_of_le hb hB.size;have hkl:i<lv.length:=by rw [HLN.out];exact hlt
    have hpr:=HV.out.price _ (getD_mem (d:=Lv0) hkl);have hqt:=HV.out.qty _ (getD_mem (d:=Lv0) hkl);have hse:costAt (lvQ lv) q (i+1)=costAt (lvQ lv) q i+lessQ (restAt (lvQ lv) q i) (lv[i]?.getD Lv0).2.1*(((lv[i]?.getD Lv0).1:Int):Rat):=by rw [costAt,partAt,lvQ_fst,lvQ_snd]
    have hre:restAt (lvQ lv) q (i+1)=restAt (lvQ lv) q i-lessQ (restAt (lvQ lv) q i) (lv[i]?.getD Lv0).2.1:=by rw [restAt,lvQ_fst]
    obtain ⟨rb0,rb1,rb2⟩:=HRB.out i (by omega);have hrls:Ls 7 (restAt (lvQ lv) q i):=⟨rb1,rb2⟩;have hcls:Ls 700 (costAt (lvQ lv) q i):=HCB.out i (by omega);generalize hse2:costAt (lvQ lv) q (i+1)=sm' at *;generalize hre2:restAt (lvQ lv) q (i+1)=nq at *;have HSE:=Hj hse2;have HRE:=Hj hre2;clear hse2 hre2;generalize costAt (lvQ lv) q i=sm at *;generalize restAt (lvQ lv) q i=lq at *;generalize (lv[i]?.getD Lv0).2.1=x at *;generalize (lv[i]?.getD Lv0).1=pr at *;have hmx:=lessQ_ls (s:=7) (by decide) hrls (a:=x) (by omega);have hxl:Ls 7 ((x:Int):Rat):=ls_int (by decide) (by omega);have hpl:Ls 7 ((pr:Int):Rat):=ls_int (by decide) (by omega);have hul:=hmx.mul hpl;have TI:=Hj (fun W=>rint_any x W (by omega) (by omega));have TI2:=Hj (fun W=>rint_any pr W (by omega) (by omega));have TM:=Hj (fun (W:World) (hW:Kp wr W) (R R':Option Addr) (k d k' d':Nat) (hh:RQ W ((x:Int):Rat) R k d R' k' d')=>(show Calls Tryz.prog 77 #[.agg #[.bool (decide (lq.num<0)),.slice A5 k5 c5,.bool false,.slice A6 k6 c6],.agg #[.bool (decide (((x:Int):Rat).num<0)),.slice R k d,.bool false,.slice R' k' d']] W (RetQ W (lessQ lq x)) from rminq_s (s:=7) (by decide) _ _ _ _ _ _ _ _ _ _ _ _ _ _ _ _ lq _ W ((hql.below hW).qs hrls (by decide)) (hh.qs hxl (by decide))));have TU0:=Hj (fun (W:World) (B2:Option Addr) (j2 d2:Nat) (B2':Option Addr) (j2' d2':Nat) (R:Option Addr) (k d:Nat) (R':Option Addr) (k' d':Nat) (h1:RQ W (lessQ lq x) B2 j2 d2 B2' j2' d2') (h2:RQ W ((pr:Int):Rat) R k d R' k' d')=>rmulq_s (s:=7) (by decide) (decide ((lessQ lq x).num<0)) false (decide (((pr:Int):Rat).num<0)) false B2 B2' R R' j2 d2 j2' d2' k d k' d' (lessQ lq x) ((pr:Int):Rat) W (h1.qs hmx (by decide)) (h2.qs hpl (by decide)));have TA0:=Hj (fun (W:World) (R:Option Addr) (k d:Nat) (R':Option Addr) (k' d':Nat) (h1:RQ W sm R5 r5 s5 R6 r6 s6) (h2:RQ W (lessQ lq x*((pr:Int):Rat)) R k d R' k' d')=>raddq_s (s:=700) (by decide) (decide (sm.num<0)) false (decide ((lessQ lq x*((pr:Int):Rat)).num<0)) false R5 R6 R R' r5 s5 r6 s6 k d k' d' sm _ W (h1.qs hcls (by decide)) (h2.qs (hul.mono (by decide)) (by decide)));have TS0:=Hj (fun (W:World) (B2:Option Addr) (j2 d2:Nat) (B2':Option Addr) (j2' d2':Nat) (h1:RQ W lq A5 k5 c5 A6 k6 c6) (h2:RQ W (lessQ lq x) B2 j2 d2 B2' j2' d2')=>rsubq_s (s:=7) (by decide) (decide (lq.num<0)) false (decide ((lessQ lq x).num<0)) false A5 A6 B2 B2' k5 c5 k6 c6 j2 d2 j2' d2' lq (lessQ lq x) W (h1.qs hrls (by decide)) (h2.qs hmx (by decide)));rw [← hse] at TA0;rw [← hre] at TS0;have HSX:=Hj (And.intro hbm hqm);have HBX:=Hj (And.intro hbl hql);have HAX:=Hj hba;have HBB:=Hj hB;generalize lessQ lq x*((pr:Int):Rat)=uq at *;generalize lessQ lq x=mq at *;generalize ((x:Int):Rat)=xq at *;generalize ((pr:Int):Rat)=pq at *;have i1:(0:Int)≤(i:Int):=by omega
    have i2:(i:Int)<(m:Int):=by omega
    clear hR0 hB hba hbm hqm hbl hql hcell hkl hpr hqt hse hre rb0 rb1 rb2 hrls hcls hmx hxl hpl hul
    go_wp2_with fail
    apply join_at
    case h =>
     intro key;refine held_at (W:=wr) (C:=fun w'=>w'.cell? ⟨gl,0,none⟩=some (.bool (decide (lq.num<0)))∧w'.cell? ⟨gl,1,none⟩=some (.slice A5 k5 c5)∧w'.cell? ⟨gl,2,none⟩=some (.bool false)∧w'.cell? ⟨gl,3,none⟩=some (.slice A6 k6 c6)∧w'.cell? ⟨b,o+i*3+1,none⟩=some (.int .i64 x)) (fun w' hk=>⟨(Kp.blk hk HBX.out.1).cell 0,(Kp.blk hk HBX.out.1).cell 1,(Kp.blk hk HBX.out.1).cell 2,(Kp.blk hk HBX.out.1).cell 3,(Below.cell hk (p:=⟨b,_,none⟩) hbr).trans y1⟩) (Kp.refl wr) (fun HS hH0=>?_);refine tq 0 ?_;refine tq 1 ?_;refine tq 2 ?_;refine tq 3 ?_;refine tq 4 ?_;refine tq 5 ?_;refine rd2 6 8 (fun K hK=>?_) (fun K hK=>?_)
     ·(try simp only [p1,p2,p3])
      go_simp;have hk:=And.right ‹_∧Kp wr _›;refine (TI.out _).mono ?_;rintro e v6 ⟨N1,n1,n2,N2,n3,n4,rfl,hk9,hj9,hW9,hX9,-,-,hbx⟩;have hp:=Kp.trans hk hbx;have r1q:RQ v6 xq N1 n1 n2 N2 n3 n4:=⟨hk9,hj9,hW9,hX9⟩
      (try replace hb12:=Blk.below hb12 hbx hb12.lt)
      clear hk hbx hk9 hj9 hW9 hX9
      (try (go_wp2_with fail))
      refine hK.out _ _ (HS.out _ hp) fun hH1=>?_;clear hK K hH0
      (try simp only [Act.put,p1,p2,p3,p4,p5,p6])
      refine rd2 7 8 (fun K hK=>?_) (fun K hK=>?_)
      ·(try simp only [p1,p2,p3])
       go_simp;have hk:=And.right ‹_∧Kp wr _›
       first|refine (TM.out _ hk _ _ _ _ _ _ r1q).mono ?_|refine (TM.out _ hk _ _ _ _ _ _ (RQ.below r1q ((Kp.refl v6).alloc _))).mono ?_
       rintro e v7 ⟨A1,k1,c1,A2,k2,d2,rfl,hk9,hj9,hW9,hX9,hF9,hG9,hbx⟩;have hp:=Kp.trans hk hbx;have r2q:RQ v7 mq A1 k1 c1 A2 k2 d2:=⟨hk9,hj9,hW9,hX9⟩
       (try replace hb12:=Blk.below hb12 hbx hb12.lt)
       clear hk hbx hk9 hj9 hW9 hX9 hF9 hG9 r1q
       (try (go_wp2_with fail))
       refine hK.out _ _ (HS.out _ hp) fun hH2=>?_;clear hK K hH1
       (try simp only [Act.put,p1,p2,p3,p4,p5,p6])
       refine rd1 8 fun K hK=>?_
       (try simp only [p1,p2,p3])
       go_simp;have hk:=And.right ‹_∧Kp wr _›;have hg12:=Below.size hk;have hb12:=blk_hereS hk 42 #[.bool false,.slice none 0 0,.bool false,.slice none 0 0]
       (try simp only [sz_drewS] at hb12 hg12)
       refine hK.out _ _ (by first|exact HS.out _ (Kp.alloc hk _)|exact HS.out _ (Kp.drew (Kp.alloc (Kp.refl wr) _))) fun hH3=>?_;clear hK K hH2
       (try simp only [Act.put,p1,p2,p3,p4,p5,p6])
       refine rd1 9 fun K hK=>?_;have hk:=And.right ‹_∧Kp wr _›;obtain ⟨_,_,_,_,i0,i1',i2',i3⟩:=hb12.four
       (try simp only [p1,p2,p3])
       go_simp;refine hK.out _ _ (by first|exact HS.out _ (Kp.alloc hp _)|exact HS.out _ (kp_set4 hk hg12 _ _ _ _)) fun hH4=>?_;clear hK K hH3
       (try simp only [Act.put,p1,p2,p3,p4,p5,p6])
       refine wpAnyH_done (by kernel_rfl) ?_ _;clear hH4;have hkY:=Kp.alloc hp (.cells #[.bool (decide (mq.num<0)),.slice A1 k1 c1,.bool false,.slice A2 k2 d2] 42);have hbY:=Blk.new v7 42 #[.bool (decide (mq.num<0)),.slice A1 k1 c1,.bool false,.slice A2 k2 d2];have hqY:=WQ.below r2q ((Kp.refl v7).alloc (.cells #[.bool (decide (mq.num<0)),.slice A1 k1 c1,.bool false,.slice A2 k2 d2] 42));have hgY:=Below.size hp;clear hk hp hb12 hg12 i0 i1' i2' i3 r2q;generalize v7.alloc (.cells #[.bool (decide (mq.num<0)),.slice A1 k1 c1,.bool false,.slice A2 k2 d2] 42)=Y at *;generalize v7.heap.size=gx at hbY hgY ⊢;revert hgY;revert hqY;revert hbY;revert hkY;revert d2;revert k2;revert A2;revert c1;revert k1;revert A1;revert n4;revert n3;revert N2;revert n2;revert n1;revert N1;revert gx;revert Y;exact key.out
      ·(try simp only [p1,p2,p3])
       go_simp;have hk:=And.right ‹_∧Kp wr _›;have hg12:=Below.size hk;have hb12:=blk_hereS hk 42 #[.bool false,.slice none 0 0,.bool false,.slice none 0 0]
       (try simp only [sz_drewS] at hb12 hg12)
       refine hK.out _ _ (by first|exact HS.out _ (Kp.alloc hk _)|exact HS.out _ (Kp.drew (Kp.alloc (Kp.refl wr) _))) fun hH5=>?_;clear hK K hH1
       (try simp only [Act.put,p1,p2,p3,p4,p5,p6])
       refine rd1 7 fun K hK=>?_
       (try simp only [p1,p2,p3])
       go_simp;have hk:=And.right ‹_∧Kp wr _›
       first|refine (TM.out _ hk _ _ _ _ _ _ r1q).mono ?_|refine (TM.out _ hk _ _ _ _ _ _ (RQ.below r1q ((Kp.refl v6).alloc _))).mono ?_
       rintro e v7 ⟨A1,k1,c1,A2,k2,d2,rfl,hk9,hj9,hW9,hX9,hF9,hG9,hbx⟩;have hp:=Kp.trans hk hbx;have r2q:RQ v7 mq A1 k1 c1 A2 k2 d2:=⟨hk9,hj9,hW9,hX9⟩
       (try replace hb12:=Blk.below hb12 hbx hb12.lt)
       clear hk hbx hk9 hj9 hW9 hX9 hF9 hG9 r1q
       (try (go_wp2_with fail))
       refine hK.out _ _ (HS.out _ hp) fun hH6=>?_;clear hK K hH5
       (try simp only [Act.put,p1,p2,p3,p4,p5,p6])
       refine rd1 9 fun K hK=>?_;have hk:=And.right ‹_∧Kp wr _›;obtain ⟨_,_,_,_,i0,i1',i2',i3⟩:=hb12.four
       (try simp only [p1,p2,p3])
       go_simp;refine hK.out _ _ (by first|exact HS.out _ (Kp.alloc hp _)|exact HS.out _ (kp_set4 hk hg12 _ _ _ _)) fun hH7=>?_;clear hK K hH6
       (try simp only [Act.put,p1,p2,p3,p4,p5,p6])
       refine wpAnyH_done (by kernel_rfl) ?_ _;clear hH7;have hkY:=kp_set4 hp hg12 (.bool (decide (mq.num<0))) (.slice A1 k1 c1) (.bool false) (.slice A2 k2 d2);have hbY:=(show Blk (qst v7 v6.heap.size 0 (decide (mq.num<0)) false A1 A2 k1 c1 k2 d2) v6.heap.size 42 #[.bool (decide (mq.num<0)),.slice A1 k1 c1,.bool false,.slice A2 k2 d2] from hb12.put4);have hqY:=WQ.put4 (o:=0) (a:=decide (mq.num<0)) (b:=false) (B:=A1) (B':=A2) (j:=k1) (d:=c1) (j':=k2) (d':=d2) r2q hb12 NoInt.four;simp only [qst,Nat.zero_add] at hbY hqY;have hgY:=hg12;clear hk hp hb12 hg12 i0 i1' i2' i3 r2q;generalize (((v7.setCell ⟨v6.heap.size,0,none⟩ (.bool (decide (mq.num<0)))).setCell ⟨v6.heap.size,1,none⟩ (.slice A1 k1 c1)).setCell ⟨v6.heap.size,2,none⟩ (.bool false)).setCell ⟨v6.heap.size,3,none⟩ (.slice A2 k2 d2)=Y at *;generalize hgxe:v6.heap.size=gx at hbY ⊢;replace hgY:wr.heap.size≤gx:=by rw [← hgxe];exact hgY
       clear hgxe;revert hgY;revert hqY;revert hbY;revert hkY;revert d2;revert k2;revert A2;revert c1;revert k1;revert A1;revert n4;revert n3;revert N2;revert n2;revert n1;revert N1;revert gx;revert Y;exact key.out
     ·(try simp only [p1,p2,p3])
      go_simp;have hk:=And.right ‹_∧Kp wr _›;have hg12:=Below.size hk;have hb12:=blk_hereS hk 42 #[.bool false,.slice none 0 0,.bool false,.slice none 0 0]
      (try simp only [sz_drewS] at hb12 hg12)
      refine hK.out _ _ (by first|exact HS.out _ (Kp.alloc hk _)|exact HS.out _ (Kp.drew (Kp.alloc (Kp.refl wr) _))) fun hH8=>?_;clear hK K hH0
      (try simp only [Act.put,p1,p2,p3,p4,p5,p6])
      refine rd1 6 fun K hK=>?_
      (try simp only [p1,p2,p3])
      go_simp;have hk:=And.right ‹_∧Kp wr _›;refine (TI.out _).mono ?_;rintro e v6 ⟨N1,n1,n2,N2,n3,n4,rfl,hk9,hj9,hW9,hX9,-,-,hbx⟩;have hp:=Kp.trans hk hbx;have r1q:RQ v6 xq N1 n1 n2 N2 n3 n4:=⟨hk9,hj9,hW9,hX9⟩
      (try replace hb12:=Blk.below hb12 hbx hb12.lt)
      clear hk hbx hk9 hj9 hW9 hX9
      (try (go_wp2_with fail))
      refine hK.out _ _ (HS.out _ hp) fun hH9=>?_;clear hK K hH8
      (try simp only [Act.put,p1,p2,p3,p4,p5,p6])
      refine rd1 7 fun K hK=>?_
      (try simp only [p1,p2,p3])
      go_simp;have hk:=And.right ‹_∧Kp wr _›
      first|refine (TM.out _ hk _ _ _ _ _ _ r1q).mono ?_|refine (TM.out _ hk _ _ _ _ _ _ (RQ.below r1q ((Kp.refl v6).alloc _))).mono ?_
      rintro e v7 ⟨A1,k1,c1,A2,k2,d2,rfl,hk9,hj9,hW9,hX9,hF9,hG9,hbx⟩;have hp:=Kp.trans hk hbx;have r2q:RQ v7 mq A1 k1 c1 A2 k2 d2:=⟨hk9,hj9,hW9,hX9⟩
      (try replace hb12:=Blk.below hb12 hbx hb12.lt)
      clear hk hbx hk9 hj9 hW9 hX9 hF9 hG9 r1q
      (try (go_wp2_with fail))
      refine hK.out _ _ (HS.out _ hp) fun hH10=>?_;clear hK K hH9
      (try simp only [Act.put,p1,p2,p3,p4,p5,p6])
      refine rd1 9 fun K hK=>?_;have hk:=And.right ‹_∧Kp wr _›;obtain ⟨_,_,_,_,i0,i1',i2',i3⟩:=hb12.four
      (try simp only [p1,p2,p3])
      go_simp;refine hK.out _ _ (by first|exact HS.out _ (Kp.alloc hp _)|exact HS.out _ (kp_set4 hk hg12 _ _ _ _)) fun hH11=>?_;clear hK K hH10
      (try simp only [Act.put,p1,p2,p3,p4,p5,p6])
      refine wpAnyH_done (by kernel_rfl) ?_ _;clear hH11;have hkY:=kp_set4 hp hg12 (.bool (decide (mq.num<0))) (.slice A1 k1 c1) (.bool false) (.slice A2 k2 d2);have hbY:=(show Blk (qst v7 wr.heap.size 0 (decide (mq.num<0)) false A1 A2 k1 c1 k2 d2) wr.heap.size 42 #[.bool (decide (mq.num<0)),.slice A1 k1 c1,.bool false,.slice A2 k2 d2] from hb12.put4);have hqY:=WQ.put4 (o:=0) (a:=decide (mq.num<0)) (b:=false) (B:=A1) (B':=A2) (j:=k1) (d:=c1) (j':=k2) (d':=d2) r2q hb12 NoInt.four;simp only [qst,Nat.zero_add] at hbY hqY;have hgY:=hg12;clear hk hp hb12 hg12 i0 i1' i2' i3 r2q;generalize (((v7.setCell ⟨wr.heap.size,0,none⟩ (.bool (decide (mq.num<0)))).setCell ⟨wr.heap.size,1,none⟩ (.slice A1 k1 c1)).setCell ⟨wr.heap.size,2,none⟩ (.bool false)).setCell ⟨wr.heap.size,3,none⟩ (.slice A2 k2 d2)=Y at *;generalize hgxe:wr.heap.size=gx at hbY ⊢;replace hgY:wr.heap.size≤gx:=by rw [← hgxe];exact hgY
      clear hgxe;revert hgY;revert hqY;revert hbY;revert hkY;revert d2;revert k2;revert A2;revert c1;revert k1;revert A1;revert n4;revert n3;revert N2;revert n2;revert n1;revert N1;revert gx;revert Y;exact key.out
    case k =>
     intro Y gx N1 n1 n2 N2 n3 n4 A1 k1 c1 A2 k2 d2 hkY hbY hqY hgY;clear TI TM;have hbrY:b<Y.heap.size:=Nat.lt_of_lt_of_le hbr (Below.size hkY);have t0:=(Below.cell hkY (p:=⟨b,o+i*3,none⟩) hbr).trans y0;have TU:=Hj (fun W (hW:Kp Y W) (R:Option Addr) (k d:Nat) (R':Option Addr) (k' d':Nat) (h:RQ W pq R k d R' k' d')=>TU0.out W _ _ _ _ _ _ R k d R' k' d' (RQ.below hqY hW) h);have TA:=Hj (fun W (hW:Kp Y W) (R:Option Addr) (k d:Nat) (R':Option Addr) (k' d':Nat) (h:RQ W uq R k d R' k' d')=>TA0.out W R k d R' k' d' (HSX.out.2.below (Below.trans hkY (Below.mono hW (Below.size hkY)))) h);have TS:=Hj (fun W (hW:Kp Y W)=>TS0.out W _ _ _ _ _ _ (HBX.out.2.below (Below.trans hkY (Below.mono hW (Below.size hkY)))) (RQ.below hqY hW));have HBL:=Hj (Kp.blk hkY HBX.out.1);have HBM:=Hj (Kp.blk hkY HSX.out.1);have HBA:=Hj (Kp.blk hkY HAX.out);have HBY:=Hj hbY;have HQY:=Hj hqY;have HKY:=Hj hkY;clear hkY hbY hqY hgY HBX HSX HAX TU0 TA0 TS0 y0 y1 hbr
     go_wp2_with fail
     refine held_front (W:=Y) (C:=fun w'=>w'.cell? ⟨gm,0,none⟩=some (.bool (decide (sm.num<0)))∧w'.cell? ⟨gm,1,none⟩=some (.slice R5 r5 s5)∧w'.cell? ⟨gm,2,none⟩=some (.bool false)∧w'.cell? ⟨gm,3,none⟩=some (.slice R6 r6 s6)∧w'.cell? ⟨gx,0,none⟩=some (.bool (decide (mq.num<0)))∧w'.cell? ⟨gx,1,none⟩=some (.slice A1 k1 c1)∧w'.cell? ⟨gx,2,none⟩=some (.bool false)∧w'.cell? ⟨gx,3,none⟩=some (.slice A2 k2 d2)∧w'.cell? ⟨gl,0,none⟩=some (.bool (decide (lq.num<0)))∧w'.cell? ⟨gl,1,none⟩=some (.slice A5 k5 c5)∧w'.cell? ⟨gl,2,none⟩=some (.bool false)∧w'.cell? ⟨gl,3,none⟩=some (.slice A6 k6 c6)∧w'.cell? ⟨b,o+i*3,none⟩=some (.int .i64 pr)) 13 2 (fun w' hk=>⟨(Kp.blk hk HBM.out).cell 0,(Kp.blk hk HBM.out).cell 1,(Kp.blk hk HBM.out).cell 2,(Kp.blk hk HBM.out).cell 3,(Kp.blk hk HBY.out).cell 0,(Kp.blk hk HBY.out).cell 1,(Kp.blk hk HBY.out).cell 2,(Kp.blk hk HBY.out).cell 3,(Kp.blk hk HBL.out).cell 0,(Kp.blk hk HBL.out).cell 1,(Kp.blk hk HBL.out).cell 2,(Kp.blk hk HBL.out).cell 3,(Below.cell hk (p:=⟨b,_,none⟩) hbrY).trans t0⟩) (Kp.refl Y) (fun HS13 hH0=>?_);refine tq 0 ?_;refine tq 1 ?_;refine tq 2 ?_;refine tq 3 ?_;refine tq 4 ?_;refine tq 5 ?_;refine tq 6 ?_;refine tq 10 ?_;refine tq 11 ?_;refine rd1 7 fun K hK=>?_
     (try simp only [p1,p2,p3])
     go_simp;have hk:=And.right ‹_∧Kp Y _›;refine (TI2.out _).mono ?_;rintro e v5 ⟨Xa1,xa2,xa3,Xa4,xa5,xa6,rfl,hk1,hk2,hW1,hW2,hF1,hF2,hbx⟩;have hp:Kp Y v5:=Kp.trans hk hbx;have cqa:RQ v5 pq Xa1 xa2 xa3 Xa4 xa5 xa6:=⟨hk1,hk2,hW1,hW2⟩;clear hk hbx hk1 hk2 hW1 hW2 hF1 hF2
     (try (go_wp2_with fail))
     refine hK.out _ _ (HS13.out _ hp) fun hH12=>?_;clear hK K hH0
     (try simp only [Act.put,p1,p2,p3,p4,p5,p6])
     refine rd1 8 fun K hK=>?_
     (try simp only [p1,p2,p3])
     go_simp;have hk:=And.right ‹_∧Kp Y _›;refine (TU.out _ hk _ _ _ _ _ _ cqa).mono ?_;rintro e v6 ⟨Xb1,xb2,xb3,Xb4,xb5,xb6,rfl,hk1,hk2,hW1,hW2,hF1,hF2,hbx⟩;have hp:Kp Y v6:=Kp.trans hk hbx;have cqb:RQ v6 uq Xb1 xb2 xb3 Xb4 xb5 xb6:=⟨hk1,hk2,hW1,hW2⟩;clear hk hbx hk1 hk2 hW1 hW2 hF1 hF2 cqa
     (try (go_wp2_with fail))
     refine hK.out _ _ (HS13.out _ hp) fun hH13=>?_;clear hK K hH12
     (try simp only [Act.put,p1,p2,p3,p4,p5,p6])
     refine rd1 9 fun K hK=>?_
     (try simp only [p1,p2,p3])
     go_simp;have hk:=And.right ‹_∧Kp Y _›;refine (TA.out _ hk _ _ _ _ _ _ cqb).mono ?_;rintro e v7 ⟨Xc1,xc2,xc3,Xc4,xc5,xc6,rfl,hk1,hk2,hW1,hW2,hF1,hF2,hbx⟩;have hp:Kp Y v7:=Kp.trans hk hbx;have cqc:RQ v7 sm' Xc1 xc2 xc3 Xc4 xc5 xc6:=⟨hk1,hk2,hW1,hW2⟩;clear hk hbx hk1 hk2 hW1 hW2 hF1 hF2 cqb
     (try (go_wp2_with fail))
     refine hK.out _ _ (HS13.out _ hp) fun hH14=>?_;clear hK K hH13
     (try simp only [Act.put,p1,p2,p3,p4,p5,p6])
     refine rd1 12 fun K hK=>?_
     (try simp only [p1,p2,p3])
     go_simp;have hk:=And.right ‹_∧Kp Y _›;refine (TS.out _ hk).mono ?_;rintro e v9 ⟨Xd1,xd2,xd3,Xd4,xd5,xd6,rfl,hk1,hk2,hW1,hW2,hF1,hF2,hbx⟩;have hp:Kp Y v9:=Kp.trans hk hbx;have cqd:RQ v9 nq Xd1 xd2 xd3 Xd4 xd5 xd6:=⟨hk1,hk2,hW1,hW2⟩
     (try replace cqc:=cqc.below hbx)
     clear hk hbx hk1 hk2 hW1 hW2 hF1 hF2
     (try (go_wp2_with fail))
     refine hK.out _ _ (HS13.out _ hp) fun hH15=>?_;clear hK K hH14
     (try simp only [Act.put,p1,p2,p3,p4,p5,p6])
     refine wpAnyH_done (by kernel_rfl) ?_ _;clear hH15;unfold Qfr;dsimp only;have hbm:=Kp.blk hp HBM.out;have hbl:=Kp.blk hp HBL.out;have hba:=Kp.blk hp HBA.out;obtain ⟨_,_,_,_,i4,i5,i6,i7⟩:=hbm.four;obtain ⟨_,_,_,_,f20,f21,f22,f23⟩:=hbl.four;refine wpAny_ready (rs:=[13]) (by kernel_rfl) (by simp) ?_;refine AllReady.cons rfl (fun K hK=>?_) AllReady.nil
     (try simp only [p1,p2,p3])
     go_simp;refine hK _ _ ?_;clear hK K
     (try simp only [Act.put,p1,p2,p3,p4,p5,p6])
     refine wpAny_ready (rs:=[14]) (by kernel_rfl) (by simp) ?_;refine AllReady.cons rfl (fun K hK=>?_) AllReady.nil
     (try simp only [p1,p2,p3])
     have hne1:¬ gm=gl:=HNE.out.1;have hne2:¬ gl=gm:=fun e=>HNE.out.1 e.symm;go_simp;refine hK _ _ ?_;clear hK K
     (try simp only [Act.put,p1,p2,p3,p4,p5,p6])
     refine wpAny_done (by kernel_rfl) ?_ _;have hp9:RcO w ga gm gl sm' nq (((((((((v9.setCell ⟨gm,0,none⟩ (.bool (decide (sm'.num<0)))).setCell ⟨gm,1,none⟩ (.slice Xc1 xc2 xc3)).setCell ⟨gm,2,none⟩ (.bool false)).setCell ⟨gm,3,none⟩ (.slice Xc4 xc5 xc6)).setCell ⟨gl,0,none⟩ (.bool (decide (nq.num<0)))).setCell ⟨gl,1,none⟩ (.slice Xd1 xd2 xd3)).setCell ⟨gl,2,none⟩ (.bool false)).setCell ⟨gl,3,none⟩ (.slice Xd4 xd5 xd6))):=by
      show RcO w ga gm gl sm' nq (qst (qst v9 gm 0 (decide (sm'.num<0)) false Xc1 Xc4 xc2 xc3 xc5 xc6) gl 0 (decide (nq.num<0)) false Xd1 Xd4 xd2 xd3 xd5 xd6);have hbl9:Blk (qst v9 gm 0 (decide (sm'.num<0)) false Xc1 Xc4 xc2 xc3 xc5 xc6) gl _ _:=hbl.far4 (fun e=>HNE.out.1 e.symm);have hga:=HNE.out;have hsz:=HGE.out;exact ⟨below_qst (below_qst (HBB.out.trans (Below.mono (Kp.trans HKY.out hp) HBB.out.size)) (by omega)) (by omega),(hba.far4 (by omega)).far4 (by omega),⟨Xc1,xc2,xc3,Xc4,xc5,xc6,(hbm.put4 (o:=0) (a:=decide (sm'.num<0)) (b:=false)).far4 hga.1,(cqc.put4 hbm NoInt.four).put4 hbl9 NoInt.four⟩,⟨Xd1,xd2,xd3,Xd4,xd5,xd6,hbl9.put4,(cqd.put4 hbm NoInt.four).put4 hbl9 NoInt.four⟩⟩
     generalize ((((((((v9.setCell ⟨gm,0,none⟩ (.bool (decide (sm'.num<0)))).setCell ⟨gm,1,none⟩ (.slice Xc1 xc2 xc3)).setCell ⟨gm,2,none⟩ (.bool false)).setCell ⟨gm,3,none⟩ (.slice Xc4 xc5 xc6)).setCell ⟨gl,0,none⟩ (.bool (decide (nq.num<0)))).setCell ⟨gl,1,none⟩ (.slice Xd1 xd2 xd3)).setCell ⟨gl,2,none⟩ (.bool false)).setCell ⟨gl,3,none⟩ (.slice Xd4 xd5 xd6))=Y9 at *;have HF:=Hj hp9;clear hne1 hne2 hp9 cqc cqd hp hbm hbl hba i4 i5 i6 i7 f20 f21 f22 f23 TI2 TU TA TS HS13 HQY HBY HBL HBM HBA HKY t0 hbrY;go_wp2;go_roundw
     case rel=>exact ⟨i+1,by omega,by go_num,by rw [HSE.out,HRE.out];exact HF⟩
     case measure=>simp [intOf];omega
   ·obtain rfl:i=m:=by omega
    obtain ⟨m0,m1,m2,m3,-⟩:=hbm.four;obtain ⟨a0,a1,a2,a3,f0,f1,f2,f3⟩:=hba.four;have hd:=hba.set4 (.bool (decide ((costAt (lvQ lv) q i).num<0))) (.slice R5 r5 s5) (.bool false) (.slice R6 r6 s6);obtain ⟨d0,d1,d2,d3,-⟩:=hd.four;have hqf:=hqm.put4 (o:=0) (a:=decide ((costAt (lvQ lv) q i).num<0)) (b:=false) (B:=R5) (B':=R6) (j:=r5) (d:=s5) (j':=r6) (d':=s6) hba NoInt.four;have hbf:=below_qst (g:=ga) (o:=0) (a:=decide ((costAt (lvQ lv) q i).num<0)) (b:=false) (A:=R5) (A':=R6) (k:=r5) (c:=s5) (k':=r6) (c':=s6) hB HGE.out;simp only [qst,Nat.zero_add] at hqf hbf;have HF:=Hj (And.intro hqf hbf);generalize hve:costAt (lvQ lv) q i=v at *;have HVE:=Hj hve;clear hve;clear hd hqf hbf hR0 hB hba hbm hqm hbl hql;go_wp2;refine bodyPost_ret (v:=.tuple #[.agg #[.bool (decide (v.num<0)),.slice R5 r5 s5,.bool false,.slice R6 r6 s6],.int .i64 0]) ?_ rfl (by rw [HVE.out];exact ⟨R5,r5,s5,R6,r6,s6,rfl,HF.out.1,HF.out.2⟩);simp [results,Tryz.results26,go_sem,d0,d1,d2,d3]
def Wr (base g:Nat) (w:World) (A:Option Addr) (k:Nat):Prop:=k≤1000000000000∧(k≠0→∃ b o,A=some ⟨b,o,none⟩∧base≤b∧b≠g∧b<w.heap.size∧∀ j,j<k→(∃ v,w.cell? ⟨b,o+j,none⟩=some v)∧w.frozen? ⟨b,o+j,none⟩=false)
section
variable {base g k c k' c':Nat} {w w':World} {A A' B B':Option Addr} {l:List Nat} {a b:Bool}
theorem Wr.nil:Wr base g w A 0:=⟨by decide,fun h=>absurd rfl h⟩
theorem Wr.below (h:Wr base g w A k) (hb:Below w.heap.size w w'):Wr base g w' A k:=by
 refine ⟨h.1,fun hk=>?_⟩;obtain ⟨b,o,rfl,h1,h2,h3,h4⟩:=h.2 hk;exact ⟨b,o,rfl,h1,h2,Nat.lt_of_lt_of_le h3 hb.size,fun j hj=>⟨(h4 j hj).1.imp fun v hv=>(hb.cell (p:=⟨b,o+j,none⟩) h3).trans hv,(hb.frozen (p:=⟨b,o+j,none⟩) h3).trans (h4 j hj).2⟩⟩
theorem Wr.set (h:Wr base g w A k) (p:Addr) (v:Value):Wr base g (w.setCell p v) A k:=by
 refine ⟨h.1,fun hk=>?_⟩;obtain ⟨b,o,rfl,h1,h2,h3,h4⟩:=h.2 hk;exact ⟨b,o,rfl,h1,h2,by simpa [World.setCell] using h3,fun j hj=>⟨by obtain ⟨u,hu⟩:=(h4 j hj).1;exact cell?_setCell_some hu,by rw [World.frozen?_setCell];exact (h4 j hj).2⟩⟩
theorem Wr.qst {g' o:Nat} {j d j' d':Nat} (h:Wr base g w A k):Wr base g (qst w g' o a b B B' j d j' d') A k:=(((h.set _ _).set _ _).set _ _).set _ _
theorem Wr.of {F:Nat} (hF:Fresh F w A k) (hW:Wat w A k l) (h1:base≤F) (h2:g<F) (h0:k≤1000000000000):Wr base g w A k:=by
 refine ⟨h0,fun hk=>?_⟩;obtain ⟨b,o,rfl,h3,h4⟩:=hF hk;obtain ⟨b',o',he,h5,h6⟩:=hW.2.2 hk;cases he;exact ⟨b,o,rfl,by omega,by omega,h5,fun j hj=>⟨⟨_,h6 j hj⟩,h4 j hj⟩⟩
end
theorem RQ.lens {s k c k' c':Nat} {w:World} {q:Rat} {A A':Option Addr} (h:RQ w q A k c A' k' c') (hq:Ls s q):k≤s∧k'≤s:=by
 obtain ⟨-,-,h1,h2⟩:=h;constructor
 ·rw [← h1.1];exact digs_len_le.2 hq.1
 ·rw [← h2.1];have:=digs_len_le.2 hq.2;unfold denW;split
  ·exact Nat.zero_le _
  ·exact this
def FrRow (base:Nat) (w:World) (g n:Nat):Prop :=
 ∃ cs,Blk w g 42 cs∧cs.size=n*4∧∀ j,j<n→∃ a A k c a' A' k' c',cs[j*4]?=some (.bool a)∧cs[j*4+1]?=some (.slice A k c)∧cs[j*4+2]?=some (.bool a')∧cs[j*4+3]?=some (.slice A' k' c')∧k≤c∧k'≤c'∧Wr base g w A k∧Wr base g w A' k'
section
variable {base g n:Nat} {w w':World}
theorem FrRow.below (h:FrRow base w g n) (hb:Below w.heap.size w w'):FrRow base w' g n:=by
 obtain ⟨cs,h1,h2,h3⟩:=h;refine ⟨cs,h1.below hb h1.lt,h2,fun j hj=>?_⟩;obtain ⟨a,A,k,c,a',A',k',c',e1,e2,e3,e4,e5,e6,e7,e8⟩:=h3 j hj;exact ⟨a,A,k,c,a',A',k',c',e1,e2,e3,e4,e5,e6,e7.below hb,e8.below hb⟩
theorem FrRow.set (h:FrRow base w g n) {p:Addr} (hp:p.block≠g) (v:Value):FrRow base (w.setCell p v) g n:=by
 obtain ⟨cs,h1,h2,h3⟩:=h;refine ⟨cs,h1.far hp.symm v,h2,fun j hj=>?_⟩;obtain ⟨a,A,k,c,a',A',k',c',e1,e2,e3,e4,e5,e6,e7,e8⟩:=h3 j hj;exact ⟨a,A,k,c,a',A',k',c',e1,e2,e3,e4,e5,e6,e7.set _ _,e8.set _ _⟩
theorem FrRow.put {i:Nat} {a b:Bool} {A A':Option Addr} {k c k' c':Nat} (h:FrRow base w g n) (hi:i<n) (hk:k≤c) (hk':k'≤c') (hA:Wr base g w A k) (hA':Wr base g w A' k'):FrRow base (qst w g (i*4) a b A A' k c k' c') g n:=by
 obtain ⟨cs,h1,h2,h3⟩:=h;refine ⟨_,h1.put4,by rw [qput_size,h2],fun j hj=>?_⟩;by_cases hji:j=i
 ·subst hji;obtain ⟨e1,e2,e3,e4⟩:=qput_same (cs:=cs) (o:=j*4) (a:=a) (b:=b) (A:=A) (A':=A') (k:=k) (c:=c) (k':=k') (c':=c') (by omega);exact ⟨_,_,_,_,_,_,_,_,e1,e2,e3,e4,hk,hk',hA.qst,hA'.qst⟩
 ·obtain ⟨a,A,k,c,a',A',k',c',e1,e2,e3,e4,e5,e6,e7,e8⟩:=h3 j hj;refine ⟨a,A,k,c,a',A',k',c',?_,?_,?_,?_,e5,e6,e7.qst,e8.qst⟩
  ·rw [qput_other (by omega)];exact e1
  ·rw [qput_other (by omega)];exact e2
  ·rw [qput_other (by omega)];exact e3
  ·rw [qput_other (by omega)];exact e4
theorem FrRow.far4 {g' o:Nat} {a b:Bool} {A A':Option Addr} {k c k' c':Nat} (h:FrRow base w g n) (hg:g'≠g):FrRow base (qst w g' o a b A A' k c k' c') g n :=
 (((h.set (p:=⟨g',o,none⟩) hg _).set (p:=⟨g',o+1,none⟩) hg _).set (p:=⟨g',o+2,none⟩) hg _).set (p:=⟨g',o+3,none⟩) hg _
theorem FrRow.start (base:Nat) (w:World) (n:Nat):FrRow base (w.alloc (.cells (madeCells qzero (n*4)) 42)) w.heap.size n:=by
 refine ⟨_,Blk.new _ _ _,size_madeCells _ _,fun j hj=>⟨false,none,0,0,false,none,0,0,?_,?_,?_,?_,Nat.le_refl _,Nat.le_refl _,Wr.nil,Wr.nil⟩⟩
 ·rw [made_get _ _ (by omega),show j*4 % 4=0 by omega];rfl
 ·rw [made_get _ _ (by omega),show (j*4+1) % 4=1 by omega];rfl
 ·rw [made_get _ _ (by omega),show (j*4+2) % 4=2 by omega];rfl
 ·rw [made_get _ _ (by omega),show (j*4+3) % 4=3 by omega];rfl
theorem FrRow.cells (h:FrRow base w g n) {j:Nat} (hj:j<n):∃ a A k c a' A' k' c',w.cell? ⟨g,j*4,none⟩=some (.bool a)∧w.cell? ⟨g,j*4+1,none⟩=some (.slice A k c)∧w.cell? ⟨g,j*4+2,none⟩=some (.bool a')∧w.cell? ⟨g,j*4+3,none⟩=some (.slice A' k' c') ∧
  w.frozen? ⟨g,j*4,none⟩=false∧w.frozen? ⟨g,j*4+1,none⟩=false∧w.frozen? ⟨g,j*4+2,none⟩=false∧w.frozen? ⟨g,j*4+3,none⟩=false∧k≤c∧k'≤c'∧Wr base g w A k∧Wr base g w A' k':=by
 obtain ⟨cs,h1,h2,h3⟩:=h;obtain ⟨a,A,k,c,a',A',k',c',e1,e2,e3,e4,e5,e6,e7,e8⟩:=h3 j hj;exact ⟨a,A,k,c,a',A',k',c',(h1.cell _).trans e1,(h1.cell _).trans e2,(h1.cell _).trans e3,(h1.cell _).trans e4,h1.frozen _,h1.frozen _,h1.frozen _,h1.frozen _,e5,e6,e7,e8⟩
end
end Go.Proofs.YtjajigkacccdgaaGreat
