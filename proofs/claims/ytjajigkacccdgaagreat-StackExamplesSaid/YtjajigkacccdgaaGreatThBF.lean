/-
Lemmas of the walk; no further conditions.
-/
import Derived.Test.YtjajigkacccdgaaGreatThBE
import Derived.Test.YtjajigkacccdgaaGreatThBB
set_option linter.unusedVariables false
set_option linter.unusedSimpArgs false
set_option maxRecDepth 100000
set_option maxHeartbeats 16000000
namespace Go.Proofs.YtjajigkacccdgaaGreat
open Go.RowKit
open Wd
theorem RetD.nat {w:World} {v:Nat} {e:Ending} {w':World} (h:RetD w (v:Int) e w'):∃ A1 k1 c1 A2 k2 c2,e=.returned (.tuple #[.agg #[.bool false,.slice A1 k1 c1],.agg #[.bool false,.slice A2 k2 c2],.int .i64 0])∧k1≤c1∧Wat w' A1 k1 (digs v)∧Fresh w.heap.size w' A1 k1∧Below w.heap.size w w':=by
 obtain ⟨A1,k1,c1,A2,k2,c2,h1,h2,h3,h4⟩:=h;rw [show decide ((v:Int)<0)=false by simp] at h1;exact ⟨A1,k1,c1,A2,k2,c2,h1,h2,h3,h4⟩
theorem rover_z (an:Bool) (A B:Option Addr) (n c m d:Nat) (z:Int) (dv:Nat) (w:World) (h:ZK w an A n z) (h':ZK w false B m (dv:Int)) (hd0:dv≠0) :
  Calls Tryz.prog 128 #[.agg #[.bool an,.slice A n c],.agg #[.bool false,.slice B m d]] w (RetQ w (mkRat z dv)):=by
 have hla:=h.len;have hlb:=h'.len;rw [Int.natAbs_natCast] at hlb;obtain ⟨g,hg⟩:∃ g,g=Nat.gcd z.natAbs dv:=⟨_,rfl⟩;have hg0:g≠0:=by rw [hg];exact Nat.gcd_ne_zero_right hd0
 have hg1:g ∣ z.natAbs:=by rw [hg];exact Nat.gcd_dvd_left _ _
 have hg2:g ∣ dv:=by rw [hg];exact Nat.gcd_dvd_right _ _
 have hgl:(hd ((g:Nat):Int).natAbs).length≤6000000000:=by rw [Int.natAbs_natCast];exact Nat.le_trans (hd_len_mono (Nat.le_of_dvd (Nat.pos_of_ne_zero hd0) hg2)) hlb
 have hnum:sg an (z.natAbs / g)=(mkRat z dv).num:=by rw [mk_num _ _ hd0,← hg,← sg_tdiv,h.sg]
 have hden:dv / g=(mkRat z dv).den:=by rw [mk_den _ _ hd0,← hg]
 have hden':sg false ((((dv:Nat):Int)).natAbs / g)=((dv / g:Nat):Int):=by rw [Int.natAbs_natCast];rfl
 rw [hden] at hden';have hdl:(hd (mkRat z dv).den).length≤6000000000:=by rw [← hden];exact Nat.le_trans (hd_len_mono (Nat.div_le_self _ _)) hlb
 have hdp:0<(mkRat z dv).den:=(mkRat z dv).den_pos;have TG:=Hj (fun W' (hW:Below w.heap.size w W')=>gcd_z an false A B n c m d z (dv:Int) W' (h.below hW) (h'.below hW));rw [Int.natAbs_natCast,← hg] at TG;have TN:=Hj (fun W' (hW:Below w.heap.size w W') (G:Option Addr) (gn gc:Nat) (hG:Wat W' G gn (digs g))=>rdiv_z an A G n c gn gc z (mkRat z dv).num g W' (h.below hW) (zk_of (z:=(g:Int)) (by rw [Int.natAbs_natCast];exact hG) hgl) hg0 hg1 hnum);have TD:=Hj (fun W' (hW:Below w.heap.size w W') (G:Option Addr) (gn gc:Nat) (hG:Wat W' G gn (digs g))=>rdiv_z false B G m d gn gc (dv:Int) ((mkRat z dv).den:Int) g W' (h'.below hW) (zk_of (z:=(g:Int)) (by rw [Int.natAbs_natCast];exact hG) hgl) hg0 (by rw [Int.natAbs_natCast];exact hg2) hden');have TC:=Hj (fun W' (D O:Option Addr) (dn dc on oc:Nat) (hD:Wat W' D dn (digs (mkRat z dv).den)) (hO:Wat W' O on (digs 1))=>rcmp_z D O dn dc on oc (mkRat z dv).den 1 W' (zk_of (z:=((mkRat z dv).den:Int)) (by rw [Int.natAbs_natCast];exact hD) (by rw [Int.natAbs_natCast];exact hdl)) (zk_of (z:=((1:Nat):Int)) hO (by rw [Int.natAbs_natCast];exact Nat.le_trans ((hd_len_le (n:=1) (k:=1)).2 (by decide)) (by decide))) hdp (by decide));have TO:=Hj (fun W'=>rone_z W');generalize mkRat z dv=q at *;clear h h' hla hlb hg hg0 hg1 hg2 hgl hnum hden hden' hdl hd0;go_enter Tryz.func128,Tryz.ntmps128
 go_wp2_with fail
 obtain ⟨hB0,hB1,hB2,hBW,hsz⟩:=pre3 w 40 #[.bool an,.slice A n c] 40 #[.bool false,.slice B m d] 42 #[.bool false,.slice none 0 0,.bool false,.slice none 0 0];generalize ((w.alloc (.cells #[.bool an,.slice A n c] 40)).alloc (.cells #[.bool false,.slice B m d] 40)).alloc (.cells #[.bool false,.slice none 0 0,.bool false,.slice none 0 0] 42)=W at *;have HSZ:=Hj hsz;clear hsz;obtain ⟨p0,p1,-,-⟩:=hB0.two;obtain ⟨p2,p3,-,-⟩:=hB1.two;have hr1:=RS4.start hB2;have HBW0:=Hj hBW
 go_wp2_with fail
 refine (TG.out W hBW).mono ?_;rintro e w1 ⟨A1,k1,c1,rfl,hk1,hW1,hF1,hb1⟩;have hB0:=(hB0.below hb1 hB0.lt).alloc (.cells #[.bool false,.slice A1 k1 c1] 40);have hB1:=(hB1.below hb1 hB1.lt).alloc (.cells #[.bool false,.slice A1 k1 c1] 40);have hB5:=Blk.new w1 40 #[.bool false,.slice A1 k1 c1];have ha:=hb1.alloc hb1.size (.cells #[.bool false,.slice A1 k1 c1] 40);have hr1:=hr1.call ha;have hBW1:=hBW.trans (ha.mono hBW.size);have hW1:=hW1.alloc (.cells #[.bool false,.slice A1 k1 c1] 40);obtain ⟨p0,p1,-,-⟩:=hB0.two;obtain ⟨p4,p5,-,-⟩:=hB5.two;clear TG hb1 ha hF1 hBW p2 p3
 go_wp2_with fail
 generalize w1.alloc (.cells #[.bool false,.slice A1 k1 c1] 40)=Wa at *;refine (TN.out Wa hBW1 A1 k1 c1 hW1).mono ?_;rintro e w2 ⟨A2,k2,c2,A3,k3,c3,rfl,hk2,hW2,hF2,hb2⟩;have hF2:=hF2.mono (base':=w.heap.size+1+1+1) (by have:=HSZ.out;have:=Below.size hr1.1;have:=hr1.2;obtain ⟨_,_,_,_,hx⟩:=this;have:=hx.lt;omega);have hB1:=((hB1.below hb2 hB1.lt).alloc (.cells #[.bool (decide (q.num<0)),.slice A2 k2 c2] 40)).alloc (.cells #[.bool false,.slice A3 k3 c3] 40);have hB5:=((hB5.below hb2 hB5.lt).alloc (.cells #[.bool (decide (q.num<0)),.slice A2 k2 c2] 40)).alloc (.cells #[.bool false,.slice A3 k3 c3] 40);have hB6:=(Blk.new w2 40 #[.bool (decide (q.num<0)),.slice A2 k2 c2]).alloc (.cells #[.bool false,.slice A3 k3 c3] 40);have ha:=(hb2.alloc hb2.size (.cells #[.bool (decide (q.num<0)),.slice A2 k2 c2] 40)).alloc (Nat.le_trans hb2.size (by simp only [World.size_alloc];omega)) (.cells #[.bool false,.slice A3 k3 c3] 40);have hr1:=hr1.call ha;have hBW2:=hBW1.trans (ha.mono hBW1.size);have hW1:=hW1.below ha;have hx2:Below w2.heap.size w2 ((w2.alloc (.cells #[.bool (decide (q.num<0)),.slice A2 k2 c2] 40)).alloc (.cells #[.bool false,.slice A3 k3 c3] 40)):=((Below.refl _ _).alloc (Nat.le_refl _) _).alloc (by simp only [World.size_alloc];omega) _;have hF2:=hF2.keep hW2 hx2;have hW2:=hW2.below hx2;obtain ⟨p2,p3,-,-⟩:=hB1.two;obtain ⟨p4,p5,-,-⟩:=hB5.two;clear TN hb2 ha hx2 p0 p1 hB0 hBW1;generalize hsb:decide (q.num<0)=sb at *
 go_wp2_with fail
 generalize (w2.alloc (.cells #[.bool sb,.slice A2 k2 c2] 40)).alloc (.cells #[.bool false,.slice A3 k3 c3] 40)=Wb at *;refine (TD.out Wb hBW2 A1 k1 c1 hW1).mono ?_;intro e w3 hr3;obtain ⟨A4,k4,c4,A5,k5,c5,rfl,hk4,hW4,hF4,hb3⟩:=hr3.nat;have hB6:=((hB6.below hb3 hB6.lt).alloc (.cells #[.bool false,.slice A4 k4 c4] 40)).alloc (.cells #[.bool false,.slice A5 k5 c5] 40);have hB9:=(Blk.new w3 40 #[.bool false,.slice A4 k4 c4]).alloc (.cells #[.bool false,.slice A5 k5 c5] 40);have hx3:Below w3.heap.size w3 ((w3.alloc (.cells #[.bool false,.slice A4 k4 c4] 40)).alloc (.cells #[.bool false,.slice A5 k5 c5] 40)):=((Below.refl _ _).alloc (Nat.le_refl _) _).alloc (by simp only [World.size_alloc];omega) _;have ha:=hb3.trans (hx3.mono hb3.size);have hF4:=hF4.mono (base':=w.heap.size+1+1+1) (by obtain ⟨_,_,_,_,hx⟩:=hr1.2;have:=hx.lt;omega);have hr1:=hr1.call ha;have hBW3:=hBW2.trans (ha.mono hBW2.size);have hF2:=hF2.keep hW2 ha;have hW2:=hW2.below ha;have hF4:=hF4.keep hW4 hx3;have hW4:=hW4.below hx3;clear TD hb3 ha hx3 hB1 hB5 p2 p3 p4 p5 hW1 hBW2 hr3
 go_wp2_with fail
 generalize (w3.alloc (.cells #[.bool false,.slice A4 k4 c4] 40)).alloc (.cells #[.bool false,.slice A5 k5 c5] 40)=Wc at *;have s5:=Kp.refl Wc;have HW2:=Hj hW2;have HW4:=Hj (fun (w':World) (hk:Kp Wc w')=>hW4.below hk);have HF2:=Hj (fun (w':World) (hk:Kp Wc w')=>hF2.keep hW2 hk);have HF4:=Hj (fun (w':World) (hk:Kp Wc w')=>hF4.keep hW4 hk);have HR1:=Hj hr1;have HSB:=Hj hsb;clear hW2 hW4 hF2 hF4 hBW3 hr1 hB2 hsb hdp;by_cases h1:q.den=1
 ·have d1:(cmpN q.den 1 == 0)=true:=by rw [h1];decide
  have HQ:=Hj (show denW q.den=[] by unfold denW;rw [if_pos h1]);generalize cmpN q.den 1=cv at *;clear h1;have hS:∀ w',Kp Wc w'→(w'.cell? ⟨w3.heap.size,0,none⟩=some (.bool false)∧w'.cell? ⟨w3.heap.size,1,none⟩=some (.slice A4 k4 c4))∧Kp Wc w':=fun w' hk=>⟨⟨(hk.blk hB9).cell 0,(hk.blk hB9).cell 1⟩,hk⟩;have HS:=Hj hS;clear hS
  go_region_held3 (fun w'=>(w'.cell? ⟨w3.heap.size,0,none⟩=some (.bool false)∧w'.cell? ⟨w3.heap.size,1,none⟩=some (.slice A4 k4 c4))∧Kp Wc w')
   (with_reducible first|(refine HS.out _ ?_;assumption)|(refine HS.out _ (Kp.drew ?_);assumption)|(refine' HS.out _ (Kp.drew (And.right ?_));rotate_left;assumption))
   (first
    | (go_at_call 181;have hk:=And.right ‹_∧Kp Wc _›;refine (TO.out _).mono ?_;rintro e v6 ⟨A6,k6,c6,rfl,hk6,hW6,hF6,hb6⟩;have hp:=Kp.trans hk hb6;clear hk hb6 hk6 hF6)
    | (go_at_call 180;have hk:=And.right ‹_∧Kp Wc _›;refine (TC.out _ A4 A6 k4 c4 k6 c6 (HW4.out _ hk) hW6).mono ?_;rintro e v7 ⟨rfl,hb7⟩;have hp:=Kp.trans hk hb7;clear hk hb7 hW6))
  all_goals
   have hB6:=hp.blk hB6;obtain ⟨p0,p1,-,-⟩:=hB6.two;have hr3:=HR1.out.call hp;obtain ⟨_,_,_,_,f0,f1,f2,f3,f4,f5,f6,f7⟩:=hr3.four;have hfin:=retQ_close (q:=q) HBW0.out (by omega) (Nat.lt_succ_self _) hr3 hk2 (Nat.le_refl 0) (HW2.out.below hp) (A':=none) (by rw [HQ.out];exact Wat.nil) (HF2.out _ hp) Fresh.nil;rw [HSB.out] at hfin;obtain ⟨g0,g1,g2,g3,-,-,-,-⟩:=(hr3.done (.bool sb) (.slice A2 k2 c2) (.bool false) (.slice none 0 0)).four;have HF:=Hj hfin;clear hfin hp hB6 hB9 hr3;go_wp2;refine bodyPost_ret (v:=.agg #[.bool sb,.slice A2 k2 c2,.bool false,.slice none 0 0]) ?_ rfl HF.out;simp [results,Tryz.results128,go_sem,g0,g1,g2,g3]
 ·have d1:(cmpN q.den 1 == 0)=false:=by
   unfold cmpN;split
   ·decide
   ·split
    ·decide
    ·exfalso;omega
  have HQ:=Hj (show denW q.den=digs q.den by unfold denW;rw [if_neg h1]);generalize cmpN q.den 1=cv at *;clear h1;have hS:∀ w',Kp Wc w'→(w'.cell? ⟨w3.heap.size,0,none⟩=some (.bool false)∧w'.cell? ⟨w3.heap.size,1,none⟩=some (.slice A4 k4 c4))∧Kp Wc w':=fun w' hk=>⟨⟨(hk.blk hB9).cell 0,(hk.blk hB9).cell 1⟩,hk⟩;have HS:=Hj hS;clear hS
  go_region_held3 (fun w'=>(w'.cell? ⟨w3.heap.size,0,none⟩=some (.bool false)∧w'.cell? ⟨w3.heap.size,1,none⟩=some (.slice A4 k4 c4))∧Kp Wc w')
   (with_reducible first|(refine HS.out _ ?_;assumption)|(refine HS.out _ (Kp.drew ?_);assumption)|(refine' HS.out _ (Kp.drew (And.right ?_));rotate_left;assumption))
   (first
    | (go_at_call 181;have hk:=And.right ‹_∧Kp Wc _›;refine (TO.out _).mono ?_;rintro e v6 ⟨A6,k6,c6,rfl,hk6,hW6,hF6,hb6⟩;have hp:=Kp.trans hk hb6;clear hk hb6 hk6 hF6)
    | (go_at_call 180;have hk:=And.right ‹_∧Kp Wc _›;refine (TC.out _ A4 A6 k4 c4 k6 c6 (HW4.out _ hk) hW6).mono ?_;rintro e v7 ⟨rfl,hb7⟩;have hp:=Kp.trans hk hb7;clear hk hb7 hW6))
  all_goals
   have hB6:=hp.blk hB6;obtain ⟨p0,p1,-,-⟩:=hB6.two;have hB9:=hp.blk hB9;obtain ⟨p2,p3,-,-⟩:=hB9.two;have hr3:=HR1.out.call hp;obtain ⟨_,_,_,_,f0,f1,f2,f3,f4,f5,f6,f7⟩:=hr3.four;have hfin:=retQ_close (q:=q) HBW0.out (by omega) (Nat.lt_succ_self _) hr3 hk2 hk4 (HW2.out.below hp) (by rw [HQ.out];exact HW4.out _ hp) (HF2.out _ hp) (HF4.out _ hp);rw [HSB.out] at hfin;obtain ⟨g0,g1,g2,g3,-,-,-,-⟩:=(hr3.done (.bool sb) (.slice A2 k2 c2) (.bool false) (.slice A4 k4 c4)).four;have HF:=Hj hfin;clear hfin hp hB6 hB9 hr3;go_wp2;refine bodyPost_ret (v:=.agg #[.bool sb,.slice A2 k2 c2,.bool false,.slice A4 k4 c4]) ?_ rfl HF.out;simp [results,Tryz.results128,go_sem,g0,g1,g2,g3]
theorem RS4.lt {g:Nat} {t:TypeId} {W w:World} (h:RS4 g t W w):g<w.heap.size:=by
 obtain ⟨_,_,_,_,_,hx⟩:=h;exact hx.lt
theorem zk_ofN {w:World} {A:Option Addr} {n v:Nat} (h:Wat w A n (digs v)) (hl:(hd v).length≤6000000000):ZK w false A n (v:Int):=by
 have:=zk_of (z:=(v:Int)) (w:=w) (A:=A) (n:=n) (by rw [Int.natAbs_natCast];exact h) (by rw [Int.natAbs_natCast];exact hl)
 rwa [show decide ((v:Int)<0)=false by simp] at this
theorem pb_half {v k:Nat} (h:v<PB k) (hk:k≤18):(hd v).length≤6000000000:=by
 have h1:=half_len h;have:3 ^ k≤3 ^ 18:=Nat.pow_le_pow_right (by decide) hk;have h18:(3:Nat) ^ 18=387420489:=by decide
 omega
theorem QIn.qz {w:World} {an bn:Bool} {A B:Option Addr} {n c m d:Nat} {na da:Int} (h:QIn w an A n c bn B m d na da) (h1:(hd (qnum na da).natAbs).length≤6000000000) (h2:(hd (qden da).natAbs).length≤6000000000):QZ w an A n bn B m na da:=by
 obtain ⟨l,l',a1,a2,a3,a4,a5,a6,a7,a8⟩:=h;refine ⟨⟨l,a1,a5,a7,?_⟩,l',a2,a6,a8,?_⟩
 ·rwa [show (qnum na da).natAbs=na.natAbs by unfold qnum;split<;>omega] at h1
 ·by_cases h0:da=0
  ·subst h0;rw [show (0:Int).natAbs=0 from rfl,hd_zero];exact Nat.zero_le _
  ·rwa [show (qden da).natAbs=da.natAbs by unfold qden;rw [if_neg h0];split<;>omega] at h2
theorem QK.qz {k:Nat} {w:World} {an bn:Bool} {A B:Option Addr} {n c m d:Nat} {q:Rat} (h:QK k w an A n c bn B m d q) (hk:k≤18) :
  ∃ na da,QZ w an A n bn B m na da∧(qnum na da).natAbs<PB k∧(qden da).natAbs<PB k∧q=mkRat (qnum na da) (qden da).natAbs∧(qden da).natAbs≠0:=by
 obtain ⟨na,da,h1,h2,h3,h4⟩:=h;exact ⟨na,da,h1.qz (pb_half h2 hk) (pb_half h3 hk),h2,h3,h4,den_nz da⟩
theorem rleastq_k {k:Nat} (hk:k≤18) (an bn:Bool) (A B:Option Addr) (n c m d:Nat) (q:Rat) (w:World) (h:QK k w an A n c bn B m d q) :
  Calls Tryz.prog 76 #[.agg #[.bool an,.slice A n c,.bool bn,.slice B m d]] w (RetQ w q):=by
 obtain ⟨na,da,hQ,h1,h2,hq,h0⟩:=h.qz hk;have LEN4:=Hj (pb_half h1 hk);have LEN5:=Hj (pb_half h2 hk);clear h h1 h2;go_enter Tryz.func76,Tryz.ntmps76
 go_wp2_with fail
 obtain ⟨hB0,hB1,hBW,hsz⟩:=pre2 w 42 #[.bool an,.slice A n c,.bool bn,.slice B m d] 42 #[.bool false,.slice none 0 0,.bool false,.slice none 0 0];generalize (w.alloc (.cells #[.bool an,.slice A n c,.bool bn,.slice B m d] 42)).alloc (.cells #[.bool false,.slice none 0 0,.bool false,.slice none 0 0] 42)=W at *;have HSZ:=Hj hsz;clear hsz;have TN:=Hj (fun W' (hW:Below (w.heap.size+1) W W')=>rnum_z an bn A B n c m d na da W' (hQ.below (hBW.trans (hW.mono (by omega)))));have TD:=Hj (fun W' (hW:Below (w.heap.size+1) W W')=>rden_z an bn A B n c m d na da W' (hQ.below (hBW.trans (hW.mono (by omega)))));have TO:=Hj (fun W' (s:Bool) (C D:Option Addr) (j e j' e':Nat) (hC:ZK W' s C j (qnum na da)) (hD:ZK W' false D j' ((qden da).natAbs:Int))=>rover_z s C D j e j' e' (qnum na da) (qden da).natAbs W' hC hD h0);rw [← hq] at TO;generalize qnum na da=z1 at *;generalize (qden da).natAbs=v1 at *;have s5:=RS4.start hB1;clear hQ hq h0;have hS:∀ w',RS4 (w.heap.size+1) 42 W w'→(w'.cell? ⟨w.heap.size,0,none⟩=some (.bool an)∧w'.cell? ⟨w.heap.size,1,none⟩=some (.slice A n c)∧w'.cell? ⟨w.heap.size,2,none⟩=some (.bool bn)∧w'.cell? ⟨w.heap.size,3,none⟩=some (.slice B m d))∧RS4 (w.heap.size+1) 42 W w':=fun w' hk=>⟨⟨(hk.blk hB0 (by omega)).cell 0,(hk.blk hB0 (by omega)).cell 1,(hk.blk hB0 (by omega)).cell 2,(hk.blk hB0 (by omega)).cell 3⟩,hk⟩;have HS:=Hj hS;clear hS
 go_region_held3 (fun w'=>(w'.cell? ⟨w.heap.size,0,none⟩=some (.bool an)∧w'.cell? ⟨w.heap.size,1,none⟩=some (.slice A n c)∧w'.cell? ⟨w.heap.size,2,none⟩=some (.bool bn)∧w'.cell? ⟨w.heap.size,3,none⟩=some (.slice B m d))∧RS4 (w.heap.size+1) 42 W w')
  (with_reducible first|(refine HS.out _ ?_;assumption)|(refine HS.out _ (RS4.drew ?_);assumption)|(refine' HS.out _ (RS4.drew (And.right ?_));rotate_left;assumption)|(refine' HS.out _ (RS4.set (And.right ?_) _ _ _ _);rotate_left;assumption))
  (first
   | (go_at_call 129;have hk:=And.right ‹_∧RS4 (w.heap.size+1) 42 W _›;refine (TN.out _ hk.1).mono ?_;rintro e v4 ⟨A4,k4,c4,rfl,hk4,hW4,hF4,hb4⟩;have hZ4:=zk_of hW4 (LEN4.out);have hr:=hk.call hb4;(try have hZ5:=hZ5.below hb4);clear hk hb4 hW4 hF4 hk4)
   | (go_at_call 130;have hk:=And.right ‹_∧RS4 (w.heap.size+1) 42 W _›;refine (TD.out _ hk.1).mono ?_;rintro e v5 ⟨A5,k5,c5,rfl,hk5,hW5,hF5,hb5⟩;have hZ5:=zk_ofN hW5 (LEN5.out);have hr:=hk.call hb5;(try have hZ4:=hZ4.below hb5);clear hk hb5 hW5 hF5 hk5)
   | (go_at_call 128;have hk:=And.right ‹_∧RS4 (w.heap.size+1) 42 W _›;refine (TO.out _ _ _ _ _ _ _ _ hZ4 hZ5).mono ?_;rintro e v9 ⟨A9,k9,c9,A10,k10,c10,rfl,hk9,hk10,hW9,hW10,hF9,hF10,hb9⟩;have hl9:=RS4.lt hk;have hr9:=hk.call hb9;obtain ⟨_,_,_,_,f0,f1,f2,f3,f4,f5,f6,f7⟩:=hr9.four))
 all_goals
  have hfin:=retQ_close hBW (by omega) (by have:=HSZ.out;have h9:=hl9;omega) hr9 hk9 hk10 hW9 hW10 hF9 hF10;obtain ⟨d0,d1,d2,d3,-,-,-,-⟩:=(hr9.done (.bool (decide ((q).num<0))) (.slice A9 k9 c9) (.bool false) (.slice A10 k10 c10)).four;have HF:=Hj hfin;clear hfin hl9 hr9 TN TD TO hZ4 hZ5;go_wp2;refine bodyPost_ret (v:=.agg #[.bool (decide ((q).num<0)),.slice A9 k9 c9,.bool false,.slice A10 k10 c10]) ?_ rfl HF.out;simp [results,Tryz.results76,go_sem,d0,d1,d2,d3]
theorem rofq (na da:Int) (w:World) (h1:na.natAbs≤9223372036854775807) (h2:da.natAbs≤9223372036854775807) :
  Calls Tryz.prog 38 #[.int .i64 na,.int .i64 da] w (RetQ w (mkRat (qnum na da) (qden da).natAbs)):=by
 have T1:=Hj (fun W=>rfrom_any na W (by omega) (by omega));have T2:=Hj (fun W=>rfrom_any da W (by omega) (by omega));have TL:=Hj (fun (W:World) (A B:Option Addr) (n c m d:Nat) (hA:Wat W A n (digs na.natAbs)) (hB:Wat W B m (digs da.natAbs)) (hc:n≤c) (hd:m≤d) =>
  rleastq_k (k:=0) (by omega) (decide (na<0)) (decide (da<0)) A B n c m d (mkRat (qnum na da) (qden da).natAbs) W (by
   have l1:(digs na.natAbs).length≤2:=digs_len_le.2 (by rw [pow2];omega);have l2:(digs da.natAbs).length≤2:=digs_len_le.2 (by rw [pow2];omega);have e1:=hA.1;have e2:=hB.1;have b1:(qnum na da).natAbs=na.natAbs:=by unfold qnum;split<;>omega
   have b2:(qden da).natAbs≤na.natAbs+da.natAbs+1:=by unfold qden;split<;>(try split)<;>omega
   have b3:=pb_zero;exact ⟨na,da,⟨_,_,hA,hB,hc,hd,by omega,by omega,by rw [val_digs,sg_self],by rw [val_digs,sg_self]⟩,by omega,by omega,rfl⟩))
 generalize mkRat (qnum na da) (qden da).natAbs=y at *;clear h1 h2;go_enter Tryz.func38,Tryz.ntmps38
 go_wp2_with fail
 obtain ⟨hB0,hBW,hsz⟩:=pre1 w 42 #[.bool false,.slice none 0 0,.bool false,.slice none 0 0];generalize w.alloc (.cells #[.bool false,.slice none 0 0,.bool false,.slice none 0 0] 42)=W at *;have HSZ:=Hj hsz;clear hsz;have hr1:=RS4.start hB0;clear hB0;refine (T1.out _).mono ?_;rintro e w1 ⟨A3,k3,c3,rfl,hk3,hW3,hF3,hb3⟩
 go_wp2_with fail
 refine (T2.out _).mono ?_;rintro e w2 ⟨A4,k4,c4,rfl,hk4,hW4,hF4,hb4⟩;have T3:=Hj (TL.out w2 A3 A4 k3 c3 k4 c4 (hW3.below hb4) hW4 hk3 hk4);have hr2:=(hr1.call hb3).call hb4;generalize decide (na<0)=s1 at *;generalize decide (da<0)=s2 at *;clear hW3 hW4 hF3 hF4 hb3 hb4 T1 T2 TL hr1 hk3 hk4
 go_wp2_with fail
 refine T3.out.mono ?_;rintro e w9 ⟨A9,k9,c9,A10,k10,c10,rfl,hk9,hk10,hW9,hW10,hF9,hF10,hb9⟩;have hl9:=RS4.lt hr2;have hr9:=hr2.call hb9;obtain ⟨_,_,_,_,f0,f1,f2,f3,f4,f5,f6,f7⟩:=hr9.four;have hfin:=retQ_close hBW (by omega) (by have:=HSZ.out;have h9:=hl9;omega) hr9 hk9 hk10 hW9 hW10 hF9 hF10;obtain ⟨d0,d1,d2,d3,-,-,-,-⟩:=(hr9.done (.bool (decide ((y).num<0))) (.slice A9 k9 c9) (.bool false) (.slice A10 k10 c10)).four;have HF:=Hj hfin;clear hfin hl9 hr9 T3;go_wp2;refine bodyPost_ret (v:=.agg #[.bool (decide ((y).num<0)),.slice A9 k9 c9,.bool false,.slice A10 k10 c10]) ?_ rfl HF.out;simp [results,Tryz.results38,go_sem,d0,d1,d2,d3]
def WB (s:Nat):Nat:=4294967296 ^ s
theorem wb_mono {a b:Nat} (h:a≤b):WB a≤WB b:=Nat.pow_le_pow_right (by decide) h
theorem wb_add (s t:Nat):WB s*WB t=WB (s+t):=(Nat.pow_add _ _ _).symm
theorem wb_mul (s t:Nat):2*(WB s*WB t)≤WB (s+t+1):=by
 rw [wb_add];unfold WB;rw [Nat.pow_succ,Nat.mul_comm];exact Nat.mul_le_mul_left _ (by decide)
theorem wb_ok {s:Nat} (h:s≤10000000000):WOK (WB s):=wok_words s h
theorem wb_three:18446744073709551616<WB 3:=by decide
def Ls (s:Nat) (q:Rat):Prop:=q.num.natAbs<WB s∧q.den<WB s
theorem Ls.mono {a b:Nat} {q:Rat} (h:Ls a q) (hab:a≤b):Ls b q:=⟨Nat.lt_of_lt_of_le h.1 (wb_mono hab),Nat.lt_of_lt_of_le h.2 (wb_mono hab)⟩
theorem ls_int {s:Nat} (hs:3≤s) {z:Int} (h:z.natAbs≤18446744073709551616):Ls s (z:Rat):=by
 refine Ls.mono (a:=3) ⟨?_,?_⟩ hs
 ·rw [Rat.num_intCast];exact Nat.lt_of_le_of_lt h wb_three
 ·rw [Rat.den_intCast];exact Nat.lt_trans (by decide) wb_three
section
variable {s t:Nat} {a b:Rat}
theorem Ls.dd (ha:Ls s a) (hb:Ls t b):((a.den:Int)*(b.den:Int)).natAbs≠0∧((a.den:Int)*(b.den:Int)).natAbs<WB (s+t+1):=by
 rw [Int.natAbs_mul,Int.natAbs_natCast,Int.natAbs_natCast];refine ⟨Nat.mul_ne_zero a.den_nz b.den_nz,?_⟩;have:=wb_mul s t;have:=Nat.mul_lt_mul'' ha.2 hb.2;omega
theorem Ls.add (ha:Ls s a) (hb:Ls t b):Ls (s+t+1) (a+b):=by
 obtain ⟨h0,h1⟩:=ha.dd hb;rw [Lv.self a,Lv.self b,rat_add _ _ _ _ (by have:=a.den_pos;omega) (by have:=b.den_pos;omega)];refine lv_mk h0 ?_ h1;have e1:=bound_mul2 (a:=a.num) (b:=(b.den:Int)) ha.1 (by rw [Int.natAbs_natCast];exact hb.2) (wb_mul s t);have e2:=bound_mul2 (a:=b.num) (b:=(a.den:Int)) hb.1 (by rw [Int.natAbs_natCast];exact ha.2) (wb_mul t s);rw [Nat.add_comm t s] at e2;omega
theorem Ls.mul (ha:Ls s a) (hb:Ls t b):Ls (s+t+1) (a*b):=by
 obtain ⟨h0,h1⟩:=ha.dd hb;rw [Lv.self a,Lv.self b,rat_mul];refine lv_mk h0 ?_ h1;have e1:=bound_mul2 ha.1 hb.1 (wb_mul s t);omega
end
def QS (s:Nat) (w:World) (neg:Bool) (A:Option Addr) (n c:Nat) (neg':Bool) (A':Option Addr) (n' c':Nat) (q:Rat):Prop:=QAt (WB s) (WB s) w neg A n c neg' A' n' c' q
section
variable {k j s t:Nat} {w w':World} {an an' bn bn':Bool} {aA aA' bA bA':Option Addr} {ak ac ak' ac' bk bc bk' bc':Nat} {q qa qb:Rat}
theorem QS.below (h:QS s w an aA ak ac an' aA' ak' ac' q) (hb:Below w.heap.size w w'):QS s w' an aA ak ac an' aA' ak' ac' q:=QAt.below h hb
theorem QS.ls (h:QS s w an aA ak ac an' aA' ak' ac' q):Ls s q:=by
 obtain ⟨na,da,h1,h2,h3,rfl⟩:=h;exact lv_mk (den_nz da) h2 h3
theorem RQ.qs {A A':Option Addr} {k c k' c':Nat} (h:RQ w q A k c A' k' c') (hq:Ls s q) (hs:s≤10000000000):QS s w (decide (q.num<0)) A k c false A' k' c' q:=by
 have hl:∀ n,n<WB s→(digs n).length≤10000000000:=fun n hn=>Nat.le_trans (digs_len_le.2 hn) hs;refine qat_canon h.1 h.2.1 h.2.2.1 h.2.2.2 ?_ ?_ hq.1 hq.2
 ·rw [← h.2.2.1.1];exact hl _ hq.1
 ·rw [← h.2.2.2.1];unfold denW;split
  ·simp
  ·exact hl _ hq.2
theorem sub_s (hs:s≤1000000000) (ha:QS s w an aA ak ac an' aA' ak' ac' qa) (hb:QS s w bn bA bk bc bn' bA' bk' bc' qb) :
  Calls Tryz.prog 55 #[.agg #[.bool an,.slice aA ak ac,.bool an',.slice aA' ak' ac'],.agg #[.bool bn,.slice bA bk bc,.bool bn',.slice bA' bk' bc']] w (RetQ w (qa-qb)) :=
 qsub_any (WB (s+s+1)) (WB s) (WB s) (wb_ok (by omega)) (wb_mul s s) (by have:=wb_mul s s;omega) _ _ _ _ _ _ _ _ _ _ _ _ _ _ _ _ _ _ _ ha hb
theorem add_s (hs:s≤1000000000) (ha:QS s w an aA ak ac an' aA' ak' ac' qa) (hb:QS s w bn bA bk bc bn' bA' bk' bc' qb) :
  Calls Tryz.prog 42 #[.agg #[.bool an,.slice aA ak ac,.bool an',.slice aA' ak' ac'],.agg #[.bool bn,.slice bA bk bc,.bool bn',.slice bA' bk' bc']] w (RetQ w (qa+qb)) :=
 qadd_any (WB (s+s+1)) (WB s) (WB s) (wb_ok (by omega)) (wb_mul s s) (by have:=wb_mul s s;omega) _ _ _ _ _ _ _ _ _ _ _ _ _ _ _ _ _ _ _ ha hb
theorem min_s (hs:s≤10000000000) (ha:QS s w an aA ak ac an' aA' ak' ac' qa) (hb:QS s w bn bA bk bc bn' bA' bk' bc' qb) :
  Calls Tryz.prog 85 #[.agg #[.bool an,.slice aA ak ac,.bool an',.slice aA' ak' ac'],.agg #[.bool bn,.slice bA bk bc,.bool bn',.slice bA' bk' bc']] w (RetQ w (if qb<qa then qb else qa)) :=
 qmin_any (WB s) (WB s) (WB s) (wb_ok hs) (Nat.le_refl _) (Nat.le_refl _) _ _ _ _ _ _ _ _ _ _ _ _ _ _ _ _ _ _ _ ha hb
end
end Go.Proofs.YtjajigkacccdgaaGreat
