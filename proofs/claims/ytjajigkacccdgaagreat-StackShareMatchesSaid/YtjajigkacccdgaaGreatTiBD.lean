/-
Lemmas of the walk; no further conditions.
-/
import Derived.Test.YtjajigkacccdgaaGreatTiBC
import Derived.Shelf.GgSortFunc.Whole
import Derived.WalkMore
set_option linter.unusedVariables false
set_option linter.unusedSimpArgs false
set_option maxRecDepth 100000
set_option maxHeartbeats 16000000
namespace Go.Proofs.YtjajigkacccdgaaGreat
open Go.RowKit
open Wd
theorem level_any (p q:Int) (A:Option Addr) (n c:Nat) (w:World) :
  Calls Tryz.prog 35 #[.int .i64 p,.int .i64 q,.slice A n c] w fun e w'=>e=.returned (.agg #[.int .i64 p,.int .i64 q,.slice A n c])∧Below w.heap.size w w':=by
 go_enter Tryz.func35,Tryz.ntmps35;have hB:=Blk.new w 64 #[.int .i64 p,.int .i64 q,.slice A n c];have c0:=hB.cell 0;have c1:=hB.cell 1;have c2:=hB.cell 2;simp at c0 c1 c2;go_wp2;refine bodyPost_ret (v:=.agg #[.int .i64 p,.int .i64 q,.slice A n c]) ?_ rfl ⟨rfl,(Below.refl _ _).alloc (Nat.le_refl _) _⟩;simp [results,Tryz.results35,go_sem,c0,c1,c2]
theorem shares_yes (up:Bool) (A R:Option Addr) (m n c rc:Nat) (lv:List St.Lv) (z cost:Int) (w:World) (h:LvAt w A m n lv) (hv:VL up n lv) (h0:0≤z) (h1:z≤totI lv) (hm0:m≠0) (hr:IsAt w R n (shAll lv n z m)) (hc:cost=costI (lvQ lv) z m) (hcb:Fits cost) (hyb:∀ y∈shAll lv n z m,Fits y) :
  Calls Tryz.prog 64 #[.slice A m c,.int .i64 z,.int .i64 cost,.slice R n rc] w fun e w'=>e=.returned (.bool true)∧Below w.heap.size w w':=by
 have hzb:=(tot_bd lv hv.qty).2;have hl48:=hv.len;have hll:=h.1;have T1:=Hj (fun (x:Int) (hx1 : -9223372036854775808≤x) (hx2:x≤9223372036854775807) W=>rint_any x W hx1 hx2);have T2:=Hj (fun W (hW:Below w.heap.size w W) aA aA' ak ac ak' ac' hq=>share_ok up A m n c lv z aA aA' ak ac ak' ac' W (h.below hW) hv hq h0 h1 hm0);have T3:=Hj (fun W (hW:Below w.heap.size w W) aA aA' ak ac ak' ac' hq=>kcost_whole up A m n c lv z aA aA' ak ac ak' ac' W (h.below hW) hv hq h0 h1);have HX:=Hj hr;have hz1 : -9223372036854775808≤z:=by omega
 have hz2:z≤9223372036854775807:=by omega
 have HZ:=Hj (And.intro hz1 hz2);have HCO:=Hj hc;have HFC:=Hj (And.intro hcb hyb);have hn16:=hv.n16;clear hzb hl48 hll h hv h0 h1 hr hz1 hz2 hc hcb hyb;go_enter Tryz.func64,Tryz.ntmps64
 go_wp2_with fail
 refine (T1.out z HZ.out.1 HZ.out.2 w).mono ?_;rintro e w1 ⟨A1,k1,c1,A2,k2,c2,rfl,hk1,hk2,hW1,hW2,-,-,hb1⟩
 go_wp2_with fail
 refine (T2.out w1 hb1 A1 A2 k1 c1 k2 c2 ⟨hk1,hk2,hW1,hW2⟩).mono ?_;rintro e w2 ⟨g,rfl,hQ2,hg,hb2⟩;have hB2:Below w.heap.size w w2:=hb1.trans (hb2.mono hb1.size);have HQ2:=Hj hQ2;clear hb1 hb2 hW1 hW2 hk1 hk2 hQ2
 go_wp2_with fail
 refine (T1.out z HZ.out.1 HZ.out.2 w2).mono ?_;rintro e w3 ⟨A1,k1,c1,A2,k2,c2,rfl,hk1,hk2,hW1,hW2,-,-,hb3⟩;have hB3:=hB2.trans (hb3.mono hB2.size);have HQ3:=Hj (HQ2.out.at.below hb3);clear HQ2 hB2 hb3
 go_wp2_with fail
 refine (T3.out w3 hB3 A1 A2 k1 c1 k2 c2 ⟨hk1,hk2,hW1,hW2⟩).mono ?_;rintro e w4 ⟨A5,k5,c5,A6,k6,c6,rfl,hC,hb4⟩;have hB4:=hB3.trans (hb4.mono hB3.size);have HQ4:=Hj (HQ3.out.below hb4);clear HQ3 hB3 hb4 hW1 hW2 hk1 hk2;obtain ⟨hC1,hC2,hC3,hC4,-,-⟩:=hC;generalize hcq:((costI (lvQ lv) z m:Int):Rat)=cq at *;have HC:=Hj (show WQ w4 cq A5 k5 c5 A6 k6 c6 from ⟨hC1,hC2,hC3,hC4⟩);have HCQ:=Hj (show ((cost:Int):Rat)=cq by rw [HCO.out];exact hcq);clear hC1 hC2 hC3 hC4 hcq HCO T2 T3
 go_wp2_with fail
 have hBx:=Blk.new w4 42 #[.bool (decide (cq.num<0)),.slice A5 k5 c5,.bool false,.slice A6 k6 c6];have k4:=(Kp.refl w4).alloc (.cells #[.bool (decide (cq.num<0)),.slice A5 k5 c5,.bool false,.slice A6 k6 c6] 42);have HQ5:=Hj (HQ4.out.below k4);have HC5:=Hj (HC.out.below k4);have hB5:=hB4.trans (Below.mono k4 hB4.size);generalize hbx:w4.heap.size=bx at *;generalize w4.alloc (.cells #[.bool (decide (cq.num<0)),.slice A5 k5 c5,.bool false,.slice A6 k6 c6] 42)=W at *;clear k4 HQ4 HC hB4 hbx;have HBX:=Hj hBx;have HB5:=Hj hB5;obtain ⟨ii,hii,hz0,hz1,hz2⟩:=info_parts info_q;have HI:=Hj hii;have HZ0:=Hj hz0;have HZ1:=Hj hz1;have HZ2:=Hj hz2;clear hBx hB5 hii hz0 hz1 hz2;generalize hys:shAll lv n z m=ys at *
 go_loopw [13,14] (fun th t wr=>∃ (i:Nat) (Ah:Option Addr) (ch:Nat) (es:List QEnt),i≤n∧t=.int .i64 (i:Int)∧th=.slice Ah i ch∧Hid (Kp W wr∧Own W.heap.size 42 4 wr Ah i ch (qCells es)∧QEnts Ah (castR ys) wr i es)) (fun _ t _=>n-(intOf t).toNat)
 case atStart=>exact ⟨0,none,0,[],Nat.zero_le _,rfl,rfl,Kp.refl _,Own.nil _ _ _ _,QEnts.start⟩
 case round =>
  obtain ⟨i,Ah,ch,es,hi,rfl,rfl,hR⟩:=hrel;by_cases hlt:i<n
  ·obtain ⟨hB,hO,hE⟩:=hR.out;obtain ⟨gr,or,rfl,hb,hcl⟩:=HX.out.2 (by omega);have hl:ys.length=n:=HX.out.1;have hcell:=(hB.cell (p:=⟨gr,or+i,none⟩) (Nat.lt_of_lt_of_le hb HB5.out.size)).trans ((HB5.out.cell (p:=⟨gr,or+i,none⟩) hb).trans (hcl i hlt));have hfy:=HFC.out.2 _ (getD_mem (d:=0) (show i<ys.length by omega));have HEI:=Hj (castR_get ys i);have i1:(0:Int)≤(i:Int):=by omega
   have i2:(i:Int)<(n:Int):=by omega
   generalize ys[i]?.getD 0=y at *;have HFY:=Hj hfy;have HR:=Hj (And.intro hB (And.intro hO hE));clear hcl hB hO hE hR hfy hb
   go_wp2_with fail
   refine (T1.out y (by have:=HFY.out.1;omega) (by have:=HFY.out.2;omega) wr).mono ?_;rintro e v1 ⟨A1,k1,c1,A2,k2,c2,rfl,hk1,hk2,hW1,hW2,hF1,hF2,hb1⟩;generalize ((y:Int):Rat)=yq at *;have HW:=Hj (And.intro (show WQ v1 yq A1 k1 c1 A2 k2 c2 from ⟨hk1,hk2,hW1,hW2⟩) (And.intro hF1 hF2));have HB1:=Hj hb1;clear hk1 hk2 hW1 hW2 hF1 hF2 hb1 hcell;have hO1:=(HR.out.2.1.keep HB1.out).keep ((Kp.refl v1).alloc (.cells #[.bool (decide (yq.num<0)),.slice A1 k1 c1,.bool false,.slice A2 k2 c2] 42));have m1:=Blk.new v1 42 #[.bool (decide (yq.num<0)),.slice A1 k1 c1,.bool false,.slice A2 k2 c2];have s1:Kp W (v1.alloc (.cells #[.bool (decide (yq.num<0)),.slice A1 k1 c1,.bool false,.slice A2 k2 c2] 42)):=Kp.alloc (Below.trans HR.out.1 (Below.mono HB1.out (Below.size HR.out.1))) _
   go_wp2_with (first
    | (at_builtin;refine wpList_append_at rfl (base:=W.heap.size) (e:=42) (size:=4) (bytes:=64) (.tmp 35) (.tmp 41) 46 rfl Tryz.underlying46 HI.out HZ0.out HZ1.out HZ2.out rfl (by decide) (xs:=qCells es) (news:=[.bool (decide (yq.num<0)),.slice A1 k1 c1,.bool false,.slice A2 k2 c2]) rfl (by exact hO1) rfl (by exact Blk.src m1 rfl (qCells_one [(decide (yq.num<0),(A1,k1,c1),(A2,k2,c2))])) (by simp only [maxLen];omega) (by omega) (by exact Below.size s1) ?_
       intro B2 cb2 w2' hO2 hb2 hk2 hs2;have HP:=Hj (And.intro hO2 (And.intro hb2 (And.intro hk2 hs2)));clear hO2 hb2 hk2 hs2))
   have hfin:Kp W w2'∧Own W.heap.size 42 4 w2' B2 (i+1) cb2 (qCells (es ++ [(decide (yq.num<0),(A1,k1,c1),(A2,k2,c2))]))∧QEnts B2 (castR ys) w2' (i+1) (es ++ [(decide (yq.num<0),(A1,k1,c1),(A2,k2,c2))]):=by
    obtain ⟨hO2,hb2,hk2,hs2⟩:=HP.out;refine ⟨Below.trans s1 hb2,by rw [qCells_append];exact hO2,?_⟩;have hlt2:=HR.out.2.1.blk_lt;have he1:=(HR.out.2.2.below HB1.out).snoc (by rw [HEI.out]) (by rw [HEI.out];exact HW.out.1) (Off.fresh HW.out.2.1 hlt2) (Off.fresh HW.out.2.2 hlt2);exact (he1.below ((Kp.refl v1).alloc _)).app hk2 hs2
   have HF:=Hj hfin;clear hfin HP hO1 m1 s1;go_wp2;go_roundw
   case rel=>exact ⟨i+1,B2,cb2,_,by omega,by go_num,rfl,HF.out⟩
   case measure=>simp [intOf];omega
  ·obtain rfl:i=n:=by omega
   obtain ⟨hB,hO,hE⟩:=hR.out;have hl:ys.length=i:=HX.out.1;have hys2:=hO.qs (by simp [castR,hl]) hE;have T4:=Hj (fun Wn (hW:Kp wr Wn)=>rrows_yes _ _ i i ch (castR ys) Wn ((HQ5.out.below hB).below hW) (hys2.below hW) (by omega) (by
    intro p hp;obtain ⟨y,hy,rfl⟩:=List.mem_map.1 hp;have hf:=HFC.out.2 y hy;unfold Fits at hf;rw [Rat.num_intCast,Rat.den_intCast];have:=len_le_two (m:=y.natAbs) (by omega);exact ⟨by omega,by simp [denW]⟩))
   have T5:∀ Wn,Kp wr Wn→Calls Tryz.prog 37 #[.int .i64 cost] Wn (RetQ Wn cq):=fun Wn _=>by
    have:=T1.out cost HFC.out.1.1 HFC.out.1.2 Wn
    rwa [HCQ.out] at this
   have T5:=Hj T5;have hsz:(digs cq.num.natAbs).length≤1000000∧(denW cq.den).length≤1000000:=by
    have hf:=HFC.out.1;unfold Fits at hf;rw [← HCQ.out,Rat.num_intCast,Rat.den_intCast];have:=len_le_two (m:=cost.natAbs) (by omega);exact ⟨by omega,by simp [denW]⟩
   have T6:∀ Wn,Kp wr Wn→∀ B1 j1 d1 B2 j2 d2,WQ Wn cq B1 j1 d1 B2 j2 d2→Calls Tryz.prog 34 #[.agg #[.bool (decide (cq.num<0)),.slice A5 k5 c5,.bool false,.slice A6 k6 c6],.agg #[.bool (decide (cq.num<0)),.slice B1 j1 d1,.bool false,.slice B2 j2 d2]] Wn fun e w'=>e=.returned (.bool true)∧Below Wn.heap.size Wn w':=fun Wn hW B1 j1 d1 B2 j2 d2 hq=>by
    have hc:=(HC5.out.below hB).below hW;obtain rfl:j1=k5:=by rw [hq.2.2.1.len,hc.2.2.1.len]
    obtain rfl:j2=k6:=by rw [hq.2.2.2.len,hc.2.2.2.len]
    exact ris_yes cq A5 B1 A6 B2 j1 c5 j2 c6 d1 d2 Wn hc hq (by rw [hc.2.2.1.len];exact hsz.1) (by rw [hc.2.2.2.len];exact hsz.2)
   have T6:=Hj T6;have hbx:=HBX.out.below hB HBX.out.lt;have HBW:=Hj (show Below w.heap.size w wr from HB5.out.trans (Below.mono hB HB5.out.size));have s5:=Kp.refl wr;clear hR hB hO hE hys2 hsz HBX HB5 HC5 HQ5 T1
   go_wp2_with fail
   have hS:∀ w',Kp wr w'→(w'.cell? ⟨bx,0,none⟩=some (.bool (decide (cq.num<0)))∧w'.cell? ⟨bx,1,none⟩=some (.slice A5 k5 c5)∧w'.cell? ⟨bx,2,none⟩=some (.bool false)∧w'.cell? ⟨bx,3,none⟩=some (.slice A6 k6 c6))∧Kp wr w':=fun w' hk=>⟨⟨(hk.blk hbx).cell 0,(hk.blk hbx).cell 1,(hk.blk hbx).cell 2,(hk.blk hbx).cell 3⟩,hk⟩;have HS:=Hj hS;clear hS
   go_region_held3 (fun w'=>(w'.cell? ⟨bx,0,none⟩=some (.bool (decide (cq.num<0)))∧w'.cell? ⟨bx,1,none⟩=some (.slice A5 k5 c5)∧w'.cell? ⟨bx,2,none⟩=some (.bool false)∧w'.cell? ⟨bx,3,none⟩=some (.slice A6 k6 c6))∧Kp wr w')
    (with_reducible first|(refine HS.out _ ?_;assumption)|(refine HS.out _ (Kp.drew ?_);assumption)|(refine' HS.out _ (Kp.drew (And.right ?_));rotate_left;assumption))
    (first
     | (go_at_call 37;have hk:=And.right ‹_∧Kp wr _›;refine (T5.out _ hk).mono ?_;rintro e v1 ⟨B1,j1,d1,B2,j2,d2,rfl,hj1,hj2,hV1,hV2,-,-,hb1⟩;have hr1:=hk.trans hb1;have HV:=Hj (show WQ v1 cq B1 j1 d1 B2 j2 d2 from ⟨hj1,hj2,hV1,hV2⟩);clear hb1 hj1 hj2 hV1 hV2)
     | (go_at_call 34;have hk:=And.right ‹_∧Kp wr _›;refine (T6.out _ hk _ _ _ _ _ _ HV.out).mono ?_;rintro e v2 ⟨rfl,hb2⟩;have hr2:=hk.trans hb2;clear hb2)
     | (go_at_call 33;have hk:=And.right ‹_∧Kp wr _›;refine (T4.out _ hk).mono ?_;rintro e v3 ⟨rfl,hb3⟩;have hr3:=hk.trans hb3;clear hb3))
   have HF:=Hj (HBW.out.trans (Below.mono hr3 HBW.out.size));clear hr1 hr2 hr3;go_wp2;go_ret;exact ⟨rfl,HF.out⟩
theorem merge_offers_lv (A:Option Addr) (n c:Nat) (ls:List (List (Int×Int))) (lv:List St.Lv) (w:World) (h:CsAt w A n ls) (hs:∀ l∈ls,l.length≤1000000000000) (hc:(ckC true ls).2=0) (hl:St.IsLv true n (St.tri 0 ls) lv) :
  Calls Tryz.prog 16 #[.slice A n c] w fun e w'=>∃ mg cap,e=.returned (.tuple #[.slice (some ⟨mg,0,none⟩) lv.length cap,.int .i64 0,.int .i64 0])∧LvAt w' (some ⟨mg,0,none⟩) lv.length n lv∧VL true n lv∧Below w.heap.size w w':=by
 refine (merge_offers_ok A n c ls w h hs hc).mono ?_;rintro e w' ⟨D,mg,cap,rfl,h1,h2,h3,h4⟩;have he:lvOf n (St.tri 0 ls) D=lv:=(lvOf_is h1 h2).only hl;have hlen:lv.length=D.length:=by rw [← he];simp [lvOf]
 refine ⟨mg,cap,by rw [hlen],?_,?_,h4⟩
 ·have:=h3.at
  rw [he] at this
  rwa [hlen]
 ·have hn:=h.1;subst hn;exact lv_valid hc hl
theorem merge_bids_lv (A:Option Addr) (n c:Nat) (ls:List (List (Int×Int))) (lv:List St.Lv) (w:World) (h:CsAt w A n ls) (hs:∀ l∈ls,l.length≤1000000000000) (hc:(ckC false ls).2=0) (hl:St.IsLv false n (St.tri 0 ls) lv) :
  Calls Tryz.prog 17 #[.slice A n c] w fun e w'=>∃ mg cap,e=.returned (.tuple #[.slice (some ⟨mg,0,none⟩) lv.length cap,.int .i64 0,.int .i64 0])∧LvAt w' (some ⟨mg,0,none⟩) lv.length n lv∧VL false n lv∧Below w.heap.size w w':=by
 refine (merge_bids_ok A n c ls w h hs hc).mono ?_;rintro e w' ⟨D,mg,cap,rfl,h1,h2,h3,h4⟩;have he:lvOf n (St.tri 0 ls) D=lv:=(lvOf_is h1 h2).only hl;have hlen:lv.length=D.length:=by rw [← he];simp [lvOf]
 refine ⟨mg,cap,by rw [hlen],?_,?_,h4⟩
 ·have:=h3.at
  rw [he] at this
  rwa [hlen]
 ·have hn:=h.1;subst hn;exact lv_valid hc hl
theorem IsAt.lit {w:World} {g:Nat} {xs:List Int} {n:Nat} {cs:Array Value} (h:Blk w g 2 cs) (hc:cs=(xs.map (Value.int .i64)).toArray) (hl:xs.length=n):IsAt w (some ⟨g,0,none⟩) n xs:=by
 subst hc;exact IRow.at (show IRow w g xs from h) hl
theorem CsAt.two {w:World} {g:Nat} {t:TypeId} {A1 A2:Option Addr} {n1 c1 n2 c2:Nat} {l1 l2:List (Int×Int)} (h:Blk w g t #[.slice A1 n1 c1,.slice A2 n2 c2]) (h1:StAt w A1 n1 l1) (h2:StAt w A2 n2 l2):CsAt w (some ⟨g,0,none⟩) 2 [l1,l2]:=by
 refine ⟨rfl,fun _=>⟨g,0,rfl,h.lt,fun j hj=>?_⟩⟩;obtain rfl|rfl:j=0∨j=1:=by omega
 ·exact ⟨A1,n1,c1,h.cell 0,h1⟩
 ·exact ⟨A2,n2,c2,h.cell 1,h2⟩
theorem LvAt.two {w:World} {g n:Nat} {t:TypeId} {p1 q1 p2 q2:Int} {A1 A2:Option Addr} {c1 c2:Nat} {x1 x2:List Int} (h:Blk w g t #[.int .i64 p1,.int .i64 q1,.slice A1 n c1,.int .i64 p2,.int .i64 q2,.slice A2 n c2]) (h1:IsAt w A1 n x1) (h2:IsAt w A2 n x2) :
  LvAt w (some ⟨g,0,none⟩) 2 n [(p1,q1,x1),(p2,q2,x2)]:=by
 refine ⟨rfl,fun _=>⟨g,0,rfl,h.lt,fun j hj=>?_⟩⟩;obtain rfl|rfl:j=0∨j=1:=by omega
 ·exact ⟨A1,c1,⟨h.cell 0,h.cell 1,h.cell 2⟩,h1⟩
 ·exact ⟨A2,c2,⟨h.cell 3,h.cell 4,h.cell 5⟩,h2⟩
theorem LvAt.three {w:World} {g n:Nat} {t:TypeId} {p1 q1 p2 q2 p3 q3:Int} {A1 A2 A3:Option Addr} {c1 c2 c3:Nat} {x1 x2 x3:List Int} (h:Blk w g t #[.int .i64 p1,.int .i64 q1,.slice A1 n c1,.int .i64 p2,.int .i64 q2,.slice A2 n c2,.int .i64 p3,.int .i64 q3,.slice A3 n c3]) (h1:IsAt w A1 n x1) (h2:IsAt w A2 n x2) (h3:IsAt w A3 n x3) :
  LvAt w (some ⟨g,0,none⟩) 3 n [(p1,q1,x1),(p2,q2,x2),(p3,q3,x3)]:=by
 refine ⟨rfl,fun _=>⟨g,0,rfl,h.lt,fun j hj=>?_⟩⟩;obtain rfl|rfl|rfl:j=0∨j=1∨j=2:=by omega
 ·exact ⟨A1,c1,⟨h.cell 0,h.cell 1,h.cell 2⟩,h1⟩
 ·exact ⟨A2,c2,⟨h.cell 3,h.cell 4,h.cell 5⟩,h2⟩
 ·exact ⟨A3,c3,⟨h.cell 6,h.cell 7,h.cell 8⟩,h3⟩
def exO:List St.Lv:=[(1,5,[5,0]),(2,3,[0,3]),(3,7,[4,3])]
def exB:List St.Lv:=[(9,7,[4,3]),(2,4,[4,0])]
theorem exO_is:St.IsLv true 2 (St.tri 0 [[(5,1),(4,3)],[(3,2),(3,3)]]) exO:=by
 refine ⟨by simp [exO,St.ltU],fun p=>?_,?_⟩
 ·simp [exO,St.tri];omega
 ·intro x hx;simp [exO] at hx;rcases hx with rfl|rfl|rfl<;>decide
theorem exB_is:St.IsLv false 2 (St.tri 0 [[(4,9),(4,2)],[(3,9)]]) exB:=by
 refine ⟨by simp [exB,St.ltU],fun p=>?_,?_⟩
 ·simp [exB,St.tri];omega
 ·intro x hx;simp [exB] at hx;rcases hx with rfl|rfl<;>decide
theorem exO_ck:(ckC true [[(5,1),(4,3)],[(3,2),(3,3)]]).2=0:=by decide
theorem exB_ck:(ckC false [[(4,9),(4,2)],[(3,9)]]).2=0:=by decide
theorem exO_tot:totI exO=15:=by decide
theorem exB_tot:totI exB=11:=by decide
theorem exO_s10:shAll exO 2 10 3=[5,5]:=by decide
theorem exO_s12:shAll exO 2 12 3=[6,6]:=by decide
theorem exB_s5:shAll exB 2 5 2=[2,3]:=by decide
theorem exO_c10:costI (lvQ exO) 10 3=17:=by decide
theorem exO_c12:costI (lvQ exO) 12 3=23:=by decide
theorem exB_c5:costI (lvQ exB) 5 2=45:=by decide
theorem prs_a:prs [5,1,4,3] 2=[(5,1),(4,3)]:=rfl
theorem prs_b:prs [3,2,3,3] 2=[(3,2),(3,3)]:=rfl
theorem prs_c:prs [4,9,4,2] 2=[(4,9),(4,2)]:=rfl
theorem prs_d:prs [3,9] 1=[(3,9)]:=rfl
theorem fits_lit {xs:List Int} (h:∀ x∈xs,-100≤x∧x≤100):∀ i:Nat,Fits (xs[i]?.getD 0):=fun i=>by
 by_cases hi:i<xs.length
 ·have:=h _ (getD_mem (d:=0) hi);unfold Fits;omega
 ·rw [List.getElem?_eq_none (by omega)];unfold Fits;simp
namespace St
end St
end Go.Proofs.YtjajigkacccdgaaGreat
namespace Go.Proofs.YtjajigkacccdgaaGreat
open Go.RowKit
open Wd
def wsL (side:Int) (q:Rat) (ls:List (List (Int×Int))):Int:=sumI (ls.map (wlL side q))
def wsM (side:Int) (q:Rat) (ls:List (List (Int×Int))):Int:=sumI (ls.map (wlM side q))
def balB (os bs:List (List (Int×Int))) (q:Rat):Bool:=decide (wsL (-1) q os≤wsM 1 q bs) && decide (wsL 1 q bs≤wsM (-1) q os)
def uP:List St.Lv→Int→Option Int
 | [],_=>none
 | x :: r,u=>if u<x.2.1 then some x.1 else uP r (u-x.2.1)
def okU (S D:List St.Lv) (u:Int):Prop:=∃ a b,uP S u=some a∧uP D u=some b∧a<b
def TrZ (S D:List St.Lv) (z:Int):Prop:=0≤z∧(∀ u,0≤u→u<z→okU S D u)∧¬ okU S D z
structure TrI (S D:List St.Lv) (i k:Nat) (z s b:Int):Prop where
 s0:0≤s
 b0:0≤b
 si:i<S.length→s<(S[i]?.getD Lv0).2.1
 bi:k<D.length→b<(D[k]?.getD Lv0).2.1
 se:¬ i<S.length→s=0
 be:¬ k<D.length→b=0
 zs:z=totI (S.take i)+s
 zb:z=totI (D.take k)+b
 ok:∀ u,0≤u→u<z→okU S D u
namespace St
end St
end Go.Proofs.YtjajigkacccdgaaGreat
namespace Go.Proofs.YtjajigkacccdgaaGreat
open Go.RowKit
open Wd
theorem awake24_any (w:World):Calls Tryz.prog 13 #[] w fun e w'=>e=.returned (.bool true)∧Below w.heap.size w w':=by
 have HKw:=Hj (Below.refl w.heap.size w);go_enter Tryz.func13,Tryz.ntmps13;have hK:Below w.heap.size w (w.alloc (.cells #[.int .i64 5,.int .i64 1,.int .i64 4,.int .i64 3] 2)):=HKw.out.alloc HKw.out.size _;have HC:=Hj (curve_any (some ⟨w.heap.size,0,none⟩) 2 4 [5,1,4,3] _ (IsAt.lit (Blk.new w 2 #[.int .i64 5,.int .i64 1,.int .i64 4,.int .i64 3]) rfl rfl) (by omega) (fits_lit (by simp)));rw [prs_a] at HC;have HKX:=Hj hK;clear hK
 go_wp2_with fail
 refine HC.out.mono ?_;rintro e w1 ⟨A1,c1,rfl,hS,hb⟩;have HKw1:=Hj (HKX.out.trans (hb.mono HKX.out.size));have HL:=Hj (show Below w.heap.size w w1 from ((Below.refl _ _).alloc (Nat.le_refl _) _).trans (hb.mono (by simp)));have HS1:=Hj hS;clear hS hb HC HKX;clear HL;have hK:Below w.heap.size w (w1.alloc (.cells #[.int .i64 3,.int .i64 2,.int .i64 3,.int .i64 3] 2)):=HKw1.out.alloc HKw1.out.size _;have HC:=Hj (curve_any (some ⟨w1.heap.size,0,none⟩) 2 4 [3,2,3,3] _ (IsAt.lit (Blk.new w1 2 #[.int .i64 3,.int .i64 2,.int .i64 3,.int .i64 3]) rfl rfl) (by omega) (fits_lit (by simp)));rw [prs_b] at HC;have HKX:=Hj hK;clear hK
 go_wp2_with fail
 refine HC.out.mono ?_;rintro e w2 ⟨A2,c2,rfl,hS,hb⟩;have HKw2:=Hj (HKX.out.trans (hb.mono HKX.out.size));have HL:=Hj (show Below w1.heap.size w1 w2 from ((Below.refl _ _).alloc (Nat.le_refl _) _).trans (hb.mono (by simp)));have HS2:=Hj hS;clear hS hb HC HKX;have HS1:=Hj (HS1.out.below HL.out);clear HL;have hK:Below w.heap.size w (w2.alloc (.cells #[.slice A1 2 c1,.slice A2 2 c2] 29)):=HKw2.out.alloc HKw2.out.size _;have kx:=(Kp.refl w2).alloc (.cells #[.slice A1 2 c1,.slice A2 2 c2] 29);have HC:=Hj (merge_offers_lv (some ⟨w2.heap.size,0,none⟩) 2 2 _ exO _ (CsAt.two (Blk.new w2 29 #[.slice A1 2 c1,.slice A2 2 c2]) (HS1.out.below kx) (HS2.out.below kx)) (by simp) exO_ck exO_is);rw [show exO.length=3 from rfl] at HC;have HKX:=Hj hK;clear hK kx HS1 HS2
 go_wp2_with fail
 refine HC.out.mono ?_;rintro e w3 ⟨mg,cap,rfl,hL,hV,hb⟩;have HKw3:=Hj (HKX.out.trans (hb.mono HKX.out.size));have HLO:=Hj hL;have HVO:=Hj hV;clear hb hL hV HC HKX;have hK:Below w.heap.size w (w3.alloc (.cells #[.int .i64 4,.int .i64 9,.int .i64 4,.int .i64 2] 2)):=HKw3.out.alloc HKw3.out.size _;have HC:=Hj (curve_any (some ⟨w3.heap.size,0,none⟩) 2 4 [4,9,4,2] _ (IsAt.lit (Blk.new w3 2 #[.int .i64 4,.int .i64 9,.int .i64 4,.int .i64 2]) rfl rfl) (by omega) (fits_lit (by simp)));rw [prs_c] at HC;have HKX:=Hj hK;clear hK
 go_wp2_with fail
 refine HC.out.mono ?_;rintro e w4 ⟨A3,c3,rfl,hS,hb⟩;have HKw4:=Hj (HKX.out.trans (hb.mono HKX.out.size));have HL:=Hj (show Below w3.heap.size w3 w4 from ((Below.refl _ _).alloc (Nat.le_refl _) _).trans (hb.mono (by simp)));have HS3:=Hj hS;clear hS hb HC HKX;have HLO:=Hj (HLO.out.below HL.out);clear HL;have hK:Below w.heap.size w (w4.alloc (.cells #[.int .i64 3,.int .i64 9] 2)):=HKw4.out.alloc HKw4.out.size _;have HC:=Hj (curve_any (some ⟨w4.heap.size,0,none⟩) 1 2 [3,9] _ (IsAt.lit (Blk.new w4 2 #[.int .i64 3,.int .i64 9]) rfl rfl) (by omega) (fits_lit (by simp)));rw [prs_d] at HC;have HKX:=Hj hK;clear hK
 go_wp2_with fail
 refine HC.out.mono ?_;rintro e w5 ⟨A4,c4,rfl,hS,hb⟩;have HKw5:=Hj (HKX.out.trans (hb.mono HKX.out.size));have HL:=Hj (show Below w4.heap.size w4 w5 from ((Below.refl _ _).alloc (Nat.le_refl _) _).trans (hb.mono (by simp)));have HS4:=Hj hS;clear hS hb HC HKX;have HLO:=Hj (HLO.out.below HL.out);have HS3:=Hj (HS3.out.below HL.out);clear HL;have hK:Below w.heap.size w (w5.alloc (.cells #[.slice A3 2 c3,.slice A4 1 c4] 29)):=HKw5.out.alloc HKw5.out.size _;have kx:=(Kp.refl w5).alloc (.cells #[.slice A3 2 c3,.slice A4 1 c4] 29);have HC:=Hj (merge_bids_lv (some ⟨w5.heap.size,0,none⟩) 2 2 _ exB _ (CsAt.two (Blk.new w5 29 #[.slice A3 2 c3,.slice A4 1 c4]) (HS3.out.below kx) (HS4.out.below kx)) (by simp) exB_ck exB_is);rw [show exB.length=2 from rfl] at HC;have HKX:=Hj hK;have HLO:=Hj (HLO.out.below kx);clear hK kx HS3 HS4
 go_wp2_with fail
 refine HC.out.mono ?_;rintro e w6 ⟨mh,cbp,rfl,hL,hV,hb⟩;have HKw6:=Hj (HKX.out.trans (hb.mono HKX.out.size));have HLO:=Hj (HLO.out.below hb);have HLB:=Hj hL;have HVB:=Hj hV;clear hb hL hV HC HKX
 go_wp2_with fail
 refine (qfromInt64_any 16 w6 (by omega) (by omega)).mono ?_;rintro e w7 ⟨A5,k5,c5,A6,k6,c6,rfl,hk5,hk6,hW5,hW6,-,-,hb⟩;have HKw7:=Hj (HKw6.out.trans (hb.mono HKw6.out.size));have HLO:=Hj (HLO.out.below hb);have HLB:=Hj (HLB.out.below hb);have HC:=Hj (share_over true (some ⟨mg,0,none⟩) 3 2 cap exO 16 A5 A6 k5 c5 k6 c6 w7 HLO.out HVO.out ⟨hk5,hk6,hW5,hW6⟩ (by omega) (by rw [exO_tot];omega) (by omega));clear hb hk5 hk6 hW5 hW6
 go_wp2_with fail
 refine HC.out.mono ?_;rintro e w8 ⟨rfl,hb⟩;have HKw8:=Hj (HKw7.out.trans (hb.mono HKw7.out.size));have HLO:=Hj (HLO.out.below hb);have HLB:=Hj (HLB.out.below hb);clear hb HC;have HC:=Hj (told_any (some ⟨mg,0,none⟩) 3 2 cap exO w8 HLO.out (by omega) (by omega))
 go_wp2_with fail
 refine HC.out.mono ?_;rintro e w9 ⟨T1,t1,rfl,hM,hb⟩;have HL:=Hj (show Below w8.heap.size w8 w9 from hb);have HKw9:=Hj (HKw8.out.trans (HL.out.mono HKw8.out.size));have HT:=Hj hM;clear hM;have HLO:=Hj (HLO.out.below HL.out);have HLB:=Hj (HLB.out.below HL.out);clear hb HC HL;have hI:=IsAt.lit (xs:=[5,0]) (n:=2) (Blk.new w9 2 #[.int .i64 5,.int .i64 0]) rfl rfl;have HC:=Hj (level_any 1 5 (some ⟨w9.heap.size,0,none⟩) 2 2 (w9.alloc (.cells #[.int .i64 5,.int .i64 0] 2)));have HI:=Hj hI;clear hI
 go_wp2_with fail
 refine HC.out.mono ?_;rintro e w10 ⟨rfl,hb⟩;have HL:=Hj (show Below w9.heap.size w9 w10 from ((Below.refl _ _).alloc (Nat.le_refl _) _).trans (hb.mono (by simp)));have HKw10:=Hj (HKw9.out.trans (HL.out.mono HKw9.out.size));have HX1:=Hj (HI.out.below hb);have HLO:=Hj (HLO.out.below HL.out);have HLB:=Hj (HLB.out.below HL.out);have HT:=Hj (HT.out.below HL.out);clear hb HC HL;clear HI;have hI:=IsAt.lit (xs:=[0,3]) (n:=2) (Blk.new w10 2 #[.int .i64 0,.int .i64 3]) rfl rfl;have HC:=Hj (level_any 2 3 (some ⟨w10.heap.size,0,none⟩) 2 2 (w10.alloc (.cells #[.int .i64 0,.int .i64 3] 2)));have HI:=Hj hI;clear hI
 go_wp2_with fail
 refine HC.out.mono ?_;rintro e w11 ⟨rfl,hb⟩;have HL:=Hj (show Below w10.heap.size w10 w11 from ((Below.refl _ _).alloc (Nat.le_refl _) _).trans (hb.mono (by simp)));have HKw11:=Hj (HKw10.out.trans (HL.out.mono HKw10.out.size));have HX2:=Hj (HI.out.below hb);have HLO:=Hj (HLO.out.below HL.out);have HLB:=Hj (HLB.out.below HL.out);have HT:=Hj (HT.out.below HL.out);have HX1:=Hj (HX1.out.below HL.out);clear hb HC HL;clear HI;have hI:=IsAt.lit (xs:=[4,3]) (n:=2) (Blk.new w11 2 #[.int .i64 4,.int .i64 3]) rfl rfl;have HC:=Hj (level_any 3 7 (some ⟨w11.heap.size,0,none⟩) 2 2 (w11.alloc (.cells #[.int .i64 4,.int .i64 3] 2)));have HI:=Hj hI;clear hI
 go_wp2_with fail
 refine HC.out.mono ?_;rintro e w12 ⟨rfl,hb⟩;have HL:=Hj (show Below w11.heap.size w11 w12 from ((Below.refl _ _).alloc (Nat.le_refl _) _).trans (hb.mono (by simp)));have HKw12:=Hj (HKw11.out.trans (HL.out.mono HKw11.out.size));have HX3:=Hj (HI.out.below hb);have HLO:=Hj (HLO.out.below HL.out);have HLB:=Hj (HLB.out.below HL.out);have HT:=Hj (HT.out.below HL.out);have HX1:=Hj (HX1.out.below HL.out);have HX2:=Hj (HX2.out.below HL.out);clear hb HC HL;clear HI;have kx:=(Kp.refl w12).alloc (.cells #[.int .i64 1,.int .i64 5,.slice (some ⟨w9.heap.size,0,none⟩) 2 2,.int .i64 2,.int .i64 3,.slice (some ⟨w10.heap.size,0,none⟩) 2 2,.int .i64 3,.int .i64 7,.slice (some ⟨w11.heap.size,0,none⟩) 2 2] 64);have hJ:=LvAt.three (Blk.new w12 64 #[.int .i64 1,.int .i64 5,.slice (some ⟨w9.heap.size,0,none⟩) 2 2,.int .i64 2,.int .i64 3,.slice (some ⟨w10.heap.size,0,none⟩) 2 2,.int .i64 3,.int .i64 7,.slice (some ⟨w11.heap.size,0,none⟩) 2 2]) (HX1.out.below kx) (HX2.out.below kx) (HX3.out.below kx);have HC:=Hj (told_any (some ⟨w12.heap.size,0,none⟩) 3 2 3 exO (w12.alloc (.cells #[.int .i64 1,.int .i64 5,.slice (some ⟨w9.heap.size,0,none⟩) 2 2,.int .i64 2,.int .i64 3,.slice (some ⟨w10.heap.size,0,none⟩) 2 2,.int .i64 3,.int .i64 7,.slice (some ⟨w11.heap.size,0,none⟩) 2 2] 64)) hJ (by omega) (by omega));clear hJ kx
 go_wp2_with fail
 refine HC.out.mono ?_;rintro e w13 ⟨B9,d9,rfl,hM,hb⟩;have HL:=Hj (show Below w12.heap.size w12 w13 from ((Below.refl _ _).alloc (Nat.le_refl _) _).trans (hb.mono (by simp)));have HKw13:=Hj (HKw12.out.trans (HL.out.mono HKw12.out.size));have HM:=Hj hM;clear hM;have HLO:=Hj (HLO.out.below HL.out);have HLB:=Hj (HLB.out.below HL.out);have HT:=Hj (HT.out.below HL.out);have HX1:=Hj (HX1.out.below HL.out);have HX2:=Hj (HX2.out.below HL.out);have HX3:=Hj (HX3.out.below HL.out);clear hb HC HL;have HC:=Hj (same24_yes T1 B9 3 2 t1 d9 exO w13 HT.out HM.out (by omega) (by omega));clear HM
 go_wp2_with fail
 refine HC.out.mono ?_;rintro e w14 ⟨rfl,hb⟩;have HL:=Hj (show Below w13.heap.size w13 w14 from hb);have HKw14:=Hj (HKw13.out.trans (HL.out.mono HKw13.out.size));have HLO:=Hj (HLO.out.below HL.out);have HLB:=Hj (HLB.out.below HL.out);have HT:=Hj (HT.out.below HL.out);have HX1:=Hj (HX1.out.below HL.out);have HX2:=Hj (HX2.out.below HL.out);have HX3:=Hj (HX3.out.below HL.out);clear hb HC HL;clear HT HX1 HX2 HX3;have hI:=IsAt.lit (xs:=[5,5]) (n:=2) (Blk.new w14 2 #[.int .i64 5,.int .i64 5]) rfl rfl;have HC:=Hj (shares_yes true (some ⟨mg,0,none⟩) (some ⟨w14.heap.size,0,none⟩) 3 2 cap 2 exO 10 17 (w14.alloc (.cells #[.int .i64 5,.int .i64 5] 2)) (HLO.out.below ((Kp.refl w14).alloc _)) HVO.out (by omega) (by rw [exO_tot];omega) (by omega) (by rw [exO_s10];exact hI) exO_c10.symm (by unfold Fits;omega) (by rw [exO_s10];simp [Fits]));clear hI
 go_wp2_with fail
 refine HC.out.mono ?_;rintro e w15 ⟨rfl,hb⟩;have HL:=Hj (show Below w14.heap.size w14 w15 from ((Below.refl _ _).alloc (Nat.le_refl _) _).trans (hb.mono (by simp)));have HKw15:=Hj (HKw14.out.trans (HL.out.mono HKw14.out.size));have HLO:=Hj (HLO.out.below HL.out);have HLB:=Hj (HLB.out.below HL.out);clear hb HC HL;have hI:=IsAt.lit (xs:=[6,6]) (n:=2) (Blk.new w15 2 #[.int .i64 6,.int .i64 6]) rfl rfl;have HC:=Hj (shares_yes true (some ⟨mg,0,none⟩) (some ⟨w15.heap.size,0,none⟩) 3 2 cap 2 exO 12 23 (w15.alloc (.cells #[.int .i64 6,.int .i64 6] 2)) (HLO.out.below ((Kp.refl w15).alloc _)) HVO.out (by omega) (by rw [exO_tot];omega) (by omega) (by rw [exO_s12];exact hI) exO_c12.symm (by unfold Fits;omega) (by rw [exO_s12];simp [Fits]));clear hI
 go_wp2_with fail
 refine HC.out.mono ?_;rintro e w16 ⟨rfl,hb⟩;have HL:=Hj (show Below w15.heap.size w15 w16 from ((Below.refl _ _).alloc (Nat.le_refl _) _).trans (hb.mono (by simp)));have HKw16:=Hj (HKw15.out.trans (HL.out.mono HKw15.out.size));have HLO:=Hj (HLO.out.below HL.out);have HLB:=Hj (HLB.out.below HL.out);clear hb HC HL;have HC:=Hj (told_any (some ⟨mh,0,none⟩) 2 2 cbp exB w16 HLB.out (by omega) (by omega))
 go_wp2_with fail
 refine HC.out.mono ?_;rintro e w17 ⟨T2,t2,rfl,hM,hb⟩;have HL:=Hj (show Below w16.heap.size w16 w17 from hb);have HKw17:=Hj (HKw16.out.trans (HL.out.mono HKw16.out.size));have HT:=Hj hM;clear hM;have HLO:=Hj (HLO.out.below HL.out);have HLB:=Hj (HLB.out.below HL.out);clear hb HC HL;have hI:=IsAt.lit (xs:=[4,3]) (n:=2) (Blk.new w17 2 #[.int .i64 4,.int .i64 3]) rfl rfl;have HC:=Hj (level_any 9 7 (some ⟨w17.heap.size,0,none⟩) 2 2 (w17.alloc (.cells #[.int .i64 4,.int .i64 3] 2)));have HI:=Hj hI;clear hI
 go_wp2_with fail
 refine HC.out.mono ?_;rintro e w18 ⟨rfl,hb⟩;have HL:=Hj (show Below w17.heap.size w17 w18 from ((Below.refl _ _).alloc (Nat.le_refl _) _).trans (hb.mono (by simp)));have HKw18:=Hj (HKw17.out.trans (HL.out.mono HKw17.out.size));have HX1:=Hj (HI.out.below hb);have HLO:=Hj (HLO.out.below HL.out);have HLB:=Hj (HLB.out.below HL.out);have HT:=Hj (HT.out.below HL.out);clear hb HC HL;clear HI;have hI:=IsAt.lit (xs:=[4,0]) (n:=2) (Blk.new w18 2 #[.int .i64 4,.int .i64 0]) rfl rfl;have HC:=Hj (level_any 2 4 (some ⟨w18.heap.size,0,none⟩) 2 2 (w18.alloc (.cells #[.int .i64 4,.int .i64 0] 2)));have HI:=Hj hI;clear hI
 go_wp2_with fail
 refine HC.out.mono ?_;rintro e w19 ⟨rfl,hb⟩;have HL:=Hj (show Below w18.heap.size w18 w19 from ((Below.refl _ _).alloc (Nat.le_refl _) _).trans (hb.mono (by simp)));have HKw19:=Hj (HKw18.out.trans (HL.out.mono HKw18.out.size));have HX2:=Hj (HI.out.below hb);have HLO:=Hj (HLO.out.below HL.out);have HLB:=Hj (HLB.out.below HL.out);have HT:=Hj (HT.out.below HL.out);have HX1:=Hj (HX1.out.below HL.out);clear hb HC HL;clear HI;have kx:=(Kp.refl w19).alloc (.cells #[.int .i64 9,.int .i64 7,.slice (some ⟨w17.heap.size,0,none⟩) 2 2,.int .i64 2,.int .i64 4,.slice (some ⟨w18.heap.size,0,none⟩) 2 2] 64);have hJ:=LvAt.two (Blk.new w19 64 #[.int .i64 9,.int .i64 7,.slice (some ⟨w17.heap.size,0,none⟩) 2 2,.int .i64 2,.int .i64 4,.slice (some ⟨w18.heap.size,0,none⟩) 2 2]) (HX1.out.below kx) (HX2.out.below kx);have HC:=Hj (told_any (some ⟨w19.heap.size,0,none⟩) 2 2 2 exB (w19.alloc (.cells #[.int .i64 9,.int .i64 7,.slice (some ⟨w17.heap.size,0,none⟩) 2 2,.int .i64 2,.int .i64 4,.slice (some ⟨w18.heap.size,0,none⟩) 2 2] 64)) hJ (by omega) (by omega));clear hJ kx
 go_wp2_with fail
 refine HC.out.mono ?_;rintro e w20 ⟨B9,d9,rfl,hM,hb⟩;have HL:=Hj (show Below w19.heap.size w19 w20 from ((Below.refl _ _).alloc (Nat.le_refl _) _).trans (hb.mono (by simp)));have HKw20:=Hj (HKw19.out.trans (HL.out.mono HKw19.out.size));have HM:=Hj hM;clear hM;have HLO:=Hj (HLO.out.below HL.out);have HLB:=Hj (HLB.out.below HL.out);have HT:=Hj (HT.out.below HL.out);have HX1:=Hj (HX1.out.below HL.out);have HX2:=Hj (HX2.out.below HL.out);clear hb HC HL;have HC:=Hj (same24_yes T2 B9 2 2 t2 d9 exB w20 HT.out HM.out (by omega) (by omega));clear HM
 go_wp2_with fail
 refine HC.out.mono ?_;rintro e w21 ⟨rfl,hb⟩;have HL:=Hj (show Below w20.heap.size w20 w21 from hb);have HKw21:=Hj (HKw20.out.trans (HL.out.mono HKw20.out.size));have HLO:=Hj (HLO.out.below HL.out);have HLB:=Hj (HLB.out.below HL.out);have HT:=Hj (HT.out.below HL.out);have HX1:=Hj (HX1.out.below HL.out);have HX2:=Hj (HX2.out.below HL.out);clear hb HC HL;clear HT HX1 HX2;have hI:=IsAt.lit (xs:=[2,3]) (n:=2) (Blk.new w21 2 #[.int .i64 2,.int .i64 3]) rfl rfl;have HC:=Hj (shares_yes false (some ⟨mh,0,none⟩) (some ⟨w21.heap.size,0,none⟩) 2 2 cbp 2 exB 5 45 (w21.alloc (.cells #[.int .i64 2,.int .i64 3] 2)) (HLB.out.below ((Kp.refl w21).alloc _)) HVB.out (by omega) (by rw [exB_tot];omega) (by omega) (by rw [exB_s5];exact hI) exB_c5.symm (by unfold Fits;omega) (by rw [exB_s5];simp [Fits]));clear hI
 go_wp2_with fail
 refine HC.out.mono ?_;rintro e w22 ⟨rfl,hb⟩;have HL:=Hj (show Below w21.heap.size w21 w22 from ((Below.refl _ _).alloc (Nat.le_refl _) _).trans (hb.mono (by simp)));have HKw22:=Hj (HKw21.out.trans (HL.out.mono HKw21.out.size));have HLO:=Hj (HLO.out.below HL.out);have HLB:=Hj (HLB.out.below HL.out);clear hb HC HL;go_wp2;go_ret;exact ⟨rfl,HKw22.out⟩
end Go.Proofs.YtjajigkacccdgaaGreat
namespace Go.Proofs.YtjajigkacccdgaaGreat
open Go.RowKit
open Wd
attribute [local go_sem ↓] Go.wp_at_zero Go.wp_at_succ
end Go.Proofs.YtjajigkacccdgaaGreat
namespace Go.Proofs.YtjajigkacccdgaaGreat
open Go.RowKit
open Wd
theorem CQ.wq {base:Nat} {w:World} {q:Rat} {A A':Option Addr} {k c k' c':Nat} (h:CQ base w q A k c A' k' c'):WQ w q A k c A' k' c':=⟨h.1,h.2.1,h.2.2.1,h.2.2.2.1⟩
end Go.Proofs.YtjajigkacccdgaaGreat
namespace Go.Proofs.YtjajigkacccdgaaGreat
open Go.Shelf Go.RowKit Go.Lib Go.Sort
open Wd
end Go.Proofs.YtjajigkacccdgaaGreat
namespace Go.Proofs.YtjajigkacccdgaaGreat
open Go.RowKit
open Go.Sort (Holds)
open Wd
def absI (p:Int):Int:=if p<0 then -p else p
def absL (l:List (Int×Int)):List Int:=l.map fun s=>absI s.2
def absS (ls:List (List (Int×Int))):List Int:=ls.flatMap absL
def dists (os bs:List (List (Int×Int))):List Int:=0 :: (absS os ++ absS bs)
def PrZ (os bs:List (List (Int×Int))) (p:Int):Prop :=
 (absI p∈dists os bs∧balB os bs ((p:Int):Rat)=true∧(∀ d∈dists os bs,d<absI p→balB os bs ((d:Int):Rat)=false∧balB os bs ((-d:Int):Rat)=false)∧(p<0→balB os bs ((-p:Int):Rat)=false)) ∨
  (p=0∧∀ d∈dists os bs,balB os bs ((d:Int):Rat)=false∧balB os bs ((-d:Int):Rat)=false)
structure RunV (os bs:List (List (Int×Int))) (z p wf:Int) (xs ys:List Int) (S D:List St.Lv):Prop where
 isS:St.IsLv true os.length (St.tri 0 os) S
 isD:St.IsLv false bs.length (St.tri 0 bs) D
 vS:VL true os.length S
 vD:VL false bs.length D
 tr:TrZ S D z
 pr:PrZ os bs p
 x:xs=shAll S os.length z S.length
 y:ys=shAll D bs.length z D.length
 w:wf=costI (lvQ D) z D.length-costI (lvQ S) z S.length
theorem cmpQ_gt {a b:Rat}:cmpQ a b=1↔b<a:=by
 unfold cmpQ;split
 ·rename_i h
  have:¬ b<a:=by grind
  simp [this]
 ·split<;>simp_all
theorem num_ltW (q:Rat):q<0↔q.num<0:=by rw [Rat.lt_iff];simp
theorem kfill_no (up:Bool) (A:Option Addr) (m n c:Nat) (lv:List St.Lv) (w:World) (h:LvAt w A m n lv) (hv:VL up n lv) (an an':Bool) (aA aA':Option Addr) (ak ac ak' ac':Nat) (q:Rat) (hq:QArg w an aA ak ac an' aA' ak' ac' q) (hx:q<0∨((totI lv:Int):Rat)<q) :
  Calls Tryz.prog 84 #[.slice A m c,.agg #[.bool an,.slice aA ak ac,.bool an',.slice aA' ak' ac']] w fun e w'=>e=.returned (.tuple #[.slice none 0 0,.int .i64 1])∧Below w.heap.size w w':=by
 have hl:=h.1;have hlen:=hv.len;have htb:=tot_bd lv hv.qty;have CC:=fun W (hW:Below w.heap.size w W)=>check_ok up A m n c lv W (h.below hW) hv;have SM:=fun W (hW:Below w.heap.size w W)=>total_ok up A m n c lv W (h.below hW) hv;clear hv;have SG:=fun W (hW:Below w.heap.size w W)=>(by obtain ⟨N,D,hqa⟩:=hq.below hW;exact qsign_any an an' aA aA' ak ac ak' ac' q W hqa:Calls Tryz.prog 57 #[.agg #[.bool an,.slice aA ak ac,.bool an',.slice aA' ak' ac']] W fun e w'=>e=.returned (.int .i64 (sgnQ q))∧Below W.heap.size W w');have FI:=fun W=>qfromInt64_any (totI lv) W (by omega) (by omega);have CM:=fun (W:World) (hW:Below w.heap.size w W) (B:Option Addr) (k d:Nat) (B':Option Addr) (k' d':Nat) (h:RQ W ((totI lv:Int):Rat) B k d B' k' d')=>qcmp_arg an an' _ false aA aA' B B' ak ac ak' ac' k d k' d' q _ W (hq.below hW) (WQ.arg h (by omega));generalize totI lv=sl at *;generalize ((sl:Int):Rat)=qs at *;by_cases hneg:q<0
 ·have hsg:decide (sgnQ q<0)=true:=by
   have:=(num_ltW q).1 hneg;unfold sgnQ;rw [cmpI_lt this];decide
  generalize sgnQ q=sq at *;have SG:=Hj SG;have CC:=Hj CC;clear SM FI CM h hq hx hneg;go_enter Tryz.func84,Tryz.ntmps84
  go_wp2_with fail
  have hB0:=Blk.new w 42 #[.bool an,.slice aA ak ac,.bool an',.slice aA' ak' ac'];have hBW:Below w.heap.size w (w.alloc (.cells #[.bool an,.slice aA ak ac,.bool an',.slice aA' ak' ac'] 42)):=(Below.refl _ _).alloc (Nat.le_refl _) _;generalize w.alloc (.cells #[.bool an,.slice aA ak ac,.bool an',.slice aA' ak' ac'] 42)=W at *;refine (CC.out W hBW).mono ?_;rintro e w1 ⟨rfl,hb1⟩;have hB1:=hB0.below hb1 hB0.lt;have hBW1:Below w.heap.size w w1:=hBW.trans (hb1.mono hBW.size);have HBK:=Hj (show ∀ w',Kp w1 w'→Below w.heap.size w w' from fun w' hk=>hBW1.trans (Below.mono hk hBW1.size));clear hb1 hB0 hBW hBW1 CC
  go_wp2_with fail
  refine held_at (W:=w1) (C:=fun w'=>w'.cell? ⟨w.heap.size,0,none⟩=some (.bool an)∧w'.cell? ⟨w.heap.size,1,none⟩=some (.slice aA ak ac)∧w'.cell? ⟨w.heap.size,2,none⟩=some (.bool an')∧w'.cell? ⟨w.heap.size,3,none⟩=some (.slice aA' ak' ac')) (fun w' hk=>⟨(hk.blk hB1).cell 0,(hk.blk hB1).cell 1,(hk.blk hB1).cell 2,(hk.blk hB1).cell 3⟩) (Kp.refl w1) (fun HS hH0=>?_);refine tq 0 ?_;refine rd1 1 fun K hK=>?_
  (try simp only [p1,p2,p3])
  go_simp;have hk:=And.right ‹_∧Kp w1 _›;refine (SG.out _ (HBK.out _ hk)).mono ?_;rintro e v1 ⟨rfl,hbx⟩;have hp:Kp w1 v1:=Kp.trans hk hbx;clear hk hbx
  (try (go_wp2_with fail))
  refine hK.out _ _ (HS.out _ hp) fun hH6=>?_;clear hK K hH0
  (try simp only [Act.put,p1,p2,p3,p4,p5,p6])
  refine tq 2 ?_;refine tq 3 ?_;refine tu 4 ?_;refine tu 5 ?_;refine tu 6 ?_;refine tu 7 ?_;refine tu 8 ?_;refine tu 9 ?_;refine tq 10 ?_;refine wpAnyH_done (by kernel_rfl) ?_ _;clear hH6;have HF:=Hj (HBK.out _ hp);clear hp HS hB1;go_wp2;go_ret2;exact ⟨rfl,HF.out⟩
 ·have hsg:decide (sgnQ q<0)=false:=by
   have h1:¬ q.num<0:=fun hh=>hneg ((num_ltW q).2 hh);apply decide_eq_false;unfold sgnQ;rcases Int.lt_trichotomy q.num 0 with h2|h2|h2
   ·exact absurd h2 h1
   ·rw [h2];decide
   ·rw [cmpI_gt h2];decide
  have hcm:decide (0<cmpQ q qs)=true:=by
   apply decide_eq_true;rw [cmpQ_gt.2 (by rcases hx with hx|hx;exact absurd hx hneg;exact hx)];decide
  generalize sgnQ q=sq at *;generalize cmpQ q qs=cq at *;have SG:=Hj SG;have CC:=Hj CC;have SM:=Hj SM;have FI:=Hj FI;have CM:=Hj CM;clear h hq hx hneg;go_enter Tryz.func84,Tryz.ntmps84
  go_wp2_with fail
  have hB0:=Blk.new w 42 #[.bool an,.slice aA ak ac,.bool an',.slice aA' ak' ac'];have hBW:Below w.heap.size w (w.alloc (.cells #[.bool an,.slice aA ak ac,.bool an',.slice aA' ak' ac'] 42)):=(Below.refl _ _).alloc (Nat.le_refl _) _;generalize w.alloc (.cells #[.bool an,.slice aA ak ac,.bool an',.slice aA' ak' ac'] 42)=W at *;refine (CC.out W hBW).mono ?_;rintro e w1 ⟨rfl,hb1⟩;have hB1:=hB0.below hb1 hB0.lt;have hBW1:Below w.heap.size w w1:=hBW.trans (hb1.mono hBW.size);have HBK:=Hj (show ∀ w',Kp w1 w'→Below w.heap.size w w' from fun w' hk=>hBW1.trans (Below.mono hk hBW1.size));clear hb1 hB0 hBW hBW1 CC
  go_wp2_with fail
  refine held_at (W:=w1) (C:=fun w'=>w'.cell? ⟨w.heap.size,0,none⟩=some (.bool an)∧w'.cell? ⟨w.heap.size,1,none⟩=some (.slice aA ak ac)∧w'.cell? ⟨w.heap.size,2,none⟩=some (.bool an')∧w'.cell? ⟨w.heap.size,3,none⟩=some (.slice aA' ak' ac')) (fun w' hk=>⟨(hk.blk hB1).cell 0,(hk.blk hB1).cell 1,(hk.blk hB1).cell 2,(hk.blk hB1).cell 3⟩) (Kp.refl w1) (fun HS hH0=>?_);refine tq 0 ?_;refine rd1 1 fun K hK=>?_
  (try simp only [p1,p2,p3])
  go_simp;have hk:=And.right ‹_∧Kp w1 _›;refine (SG.out _ (HBK.out _ hk)).mono ?_;rintro e v1 ⟨rfl,hbx⟩;have hp:Kp w1 v1:=Kp.trans hk hbx;clear hk hbx
  (try (go_wp2_with fail))
  refine hK.out _ _ (HS.out _ hp) fun hH7=>?_;clear hK K hH0
  (try simp only [Act.put,p1,p2,p3,p4,p5,p6])
  refine tq 2 ?_;refine tq 3 ?_;refine tq 4 ?_;refine tq 5 ?_;refine rd1 6 fun K hK=>?_
  (try simp only [p1,p2,p3])
  go_simp;have hk:=And.right ‹_∧Kp w1 _›;refine (SM.out _ (HBK.out _ hk)).mono ?_;rintro e v2 ⟨rfl,hbx⟩;have hp:Kp w1 v2:=Kp.trans hk hbx;clear hk hbx
  (try (go_wp2_with fail))
  refine hK.out _ _ (HS.out _ hp) fun hH8=>?_;clear hK K hH7
  (try simp only [Act.put,p1,p2,p3,p4,p5,p6])
  refine rd1 7 fun K hK=>?_
  (try simp only [p1,p2,p3])
  go_simp;have hk:=And.right ‹_∧Kp w1 _›;refine (FI.out _).mono ?_;rintro e v3 ⟨A3,k3,c3,A4,k4,c4,rfl,hk3,hk4,hW3,hW4,-,-,hbx⟩;have hp:Kp w1 v3:=Kp.trans hk hbx;have hrq:=(show RQ v3 qs A3 k3 c3 A4 k4 c4 from ⟨hk3,hk4,hW3,hW4⟩);clear hk hbx hk3 hk4 hW3 hW4
  (try (go_wp2_with fail))
  refine hK.out _ _ (HS.out _ hp) fun hH9=>?_;clear hK K hH8
  (try simp only [Act.put,p1,p2,p3,p4,p5,p6])
  refine rd1 8 fun K hK=>?_
  (try simp only [p1,p2,p3])
  go_simp;have hk:=And.right ‹_∧Kp w1 _›;refine (CM.out _ (HBK.out _ hk) _ _ _ _ _ _ hrq).mono ?_;rintro e v4 ⟨rfl,hbx⟩;have hp:Kp w1 v4:=Kp.trans hk hbx;clear hk hbx hrq
  (try (go_wp2_with fail))
  refine hK.out _ _ (HS.out _ hp) fun hH10=>?_;clear hK K hH9
  (try simp only [Act.put,p1,p2,p3,p4,p5,p6])
  refine tq 9 ?_;refine tq 10 ?_;refine wpAnyH_done (by kernel_rfl) ?_ _;clear hH10;have HF:=Hj (HBK.out _ hp);clear hp HS hB1;go_wp2;go_ret2;exact ⟨rfl,HF.out⟩
def ErrQ (w:World) (x:Int) (e:Ending) (w':World):Prop:=e=.returned (.tuple #[.agg #[.bool false,.slice none 0 0,.bool false,.slice none 0 0],.int .i64 x])∧Below w.heap.size w w'
end Go.Proofs.YtjajigkacccdgaaGreat
