/-
Lemmas of the walk; no further conditions.
-/
import Derived.Test.YtjajigkacccdgaaGreatTiBA
import Derived.OrdersHeld
import Derived.Deep.RegionHeld3
import Derived.Deep.DrawnRows
import Derived.Maps.AppendAt
set_option linter.unusedVariables false
set_option linter.unusedSimpArgs false
set_option maxRecDepth 100000
set_option maxHeartbeats 16000000
namespace Go.Proofs.YtjajigkacccdgaaGreat
open Go.RowKit
open Wd
theorem Ls.neg {s:Nat} {q:Rat} (h:Ls s q):Ls s (-q):=by
 unfold Ls at *;rw [show (-q).num = -q.num from rfl,show (-q).den=q.den from rfl,Int.natAbs_neg];exact h
theorem QS.qk {k s:Nat} {w:World} {an an':Bool} {A A':Option Addr} {n c n' c':Nat} {q:Rat} (h:QS s w an A n c an' A' n' c' q) (hs:s≤7*3 ^ k):QK k w an A n c an' A' n' c' q:=QS.mono (t:=7*3 ^ k) h hs
theorem three18:(3:Nat) ^ 18=387420489:=by decide
theorem rnegq_s {s:Nat} (hs:s≤2000000000) (an bn:Bool) (A B:Option Addr) (n c m d:Nat) (q:Rat) (w:World) (h:QS s w an A n c bn B m d q) :
  Calls Tryz.prog 133 #[.agg #[.bool an,.slice A n c,.bool bn,.slice B m d]] w (RetQ w (-q)):=rnegq_k (k:=18) (Nat.le_refl _) _ _ _ _ _ _ _ _ _ _ (h.qk (by rw [three18];omega))
theorem rsignq_s {s:Nat} (hs:s≤2000000000) (an bn:Bool) (A B:Option Addr) (n c m d:Nat) (q:Rat) (w:World) (h:QS s w an A n c bn B m d q) :
  Calls Tryz.prog 116 #[.agg #[.bool an,.slice A n c,.bool bn,.slice B m d]] w fun e w'=>e=.returned (.int .i64 (sgnQ q))∧Below w.heap.size w w':=rsignq_k (k:=18) (Nat.le_refl _) _ _ _ _ _ _ _ _ _ _ (h.qk (by rw [three18];omega))
theorem rleastq_s {s:Nat} (hs:s≤2000000000) (an bn:Bool) (A B:Option Addr) (n c m d:Nat) (q:Rat) (w:World) (h:QS s w an A n c bn B m d q) :
  Calls Tryz.prog 76 #[.agg #[.bool an,.slice A n c,.bool bn,.slice B m d]] w (RetQ w q):=rleastq_k (k:=18) (Nat.le_refl _) _ _ _ _ _ _ _ _ _ _ (h.qk (by rw [three18];omega))
theorem rsubq_s {s:Nat} (hs:s≤1000000000) (an an' bn bn':Bool) (A A' B B':Option Addr) (n c n' c' m d m' d':Nat) (qa qb:Rat) (w:World) (ha:QS s w an A n c an' A' n' c' qa) (hb:QS s w bn B m d bn' B' m' d' qb) :
  Calls Tryz.prog 79 #[.agg #[.bool an,.slice A n c,.bool an',.slice A' n' c'],.agg #[.bool bn,.slice B m d,.bool bn',.slice B' m' d']] w (RetQ w (qa-qb)):=by
 have TN:=Hj (fun W' (hW:Below w.heap.size w W')=>rnegq_s (by omega) bn bn' B B' m d m' d' qb W' (hb.below hW));have TA:=Hj (fun W' (hW:Below w.heap.size w W') (C D:Option Addr) (j e j' e':Nat) (hN:RQ W' (-qb) C j e D j' e')=>raddq_s hs an an' (decide ((-qb).num<0)) false A A' C D n c n' c' j e j' e' qa (-qb) W' (ha.below hW) (hN.qs hb.ls.neg (by omega)));rw [show qa + -qb=qa-qb from (Rat.sub_eq_add_neg ..).symm] at TA;generalize qa-qb=y at *;generalize -qb=nb at *;clear ha hb;go_enter Tryz.func79,Tryz.ntmps79
 go_wp2_with fail
 obtain ⟨hB0,hB1,hB2,hBW,hsz⟩:=pre3 w 42 #[.bool an,.slice A n c,.bool an',.slice A' n' c'] 42 #[.bool bn,.slice B m d,.bool bn',.slice B' m' d'] 42 #[.bool false,.slice none 0 0,.bool false,.slice none 0 0];generalize ((w.alloc (.cells #[.bool an,.slice A n c,.bool an',.slice A' n' c'] 42)).alloc (.cells #[.bool bn,.slice B m d,.bool bn',.slice B' m' d'] 42)).alloc (.cells #[.bool false,.slice none 0 0,.bool false,.slice none 0 0] 42)=W at *;have HSZ:=Hj hsz;clear hsz;have HBW:=Hj hBW;have TN:=Hj (fun W' (hW:Below (w.heap.size+1+1) W W')=>TN.out W' (HBW.out.trans (hW.mono (by omega))));have TA:=Hj (fun W' (hW:Below (w.heap.size+1+1) W W')=>TA.out W' (HBW.out.trans (hW.mono (by omega))));have s5:=RS4.start hB2;have hS:∀ w',RS4 (w.heap.size+1+1) 42 W w'→(w'.cell? ⟨w.heap.size,0,none⟩=some (.bool an)∧w'.cell? ⟨w.heap.size,1,none⟩=some (.slice A n c)∧w'.cell? ⟨w.heap.size,2,none⟩=some (.bool an')∧w'.cell? ⟨w.heap.size,3,none⟩=some (.slice A' n' c')∧w'.cell? ⟨w.heap.size+1,0,none⟩=some (.bool bn)∧w'.cell? ⟨w.heap.size+1,1,none⟩=some (.slice B m d)∧w'.cell? ⟨w.heap.size+1,2,none⟩=some (.bool bn')∧w'.cell? ⟨w.heap.size+1,3,none⟩=some (.slice B' m' d'))∧RS4 (w.heap.size+1+1) 42 W w':=fun w' hk=>⟨⟨(hk.blk hB0 (by omega)).cell 0,(hk.blk hB0 (by omega)).cell 1,(hk.blk hB0 (by omega)).cell 2,(hk.blk hB0 (by omega)).cell 3,(hk.blk hB1 (by omega)).cell 0,(hk.blk hB1 (by omega)).cell 1,(hk.blk hB1 (by omega)).cell 2,(hk.blk hB1 (by omega)).cell 3⟩,hk⟩;have HS:=Hj hS;clear hS
 go_region_held3 (fun w'=>(w'.cell? ⟨w.heap.size,0,none⟩=some (.bool an)∧w'.cell? ⟨w.heap.size,1,none⟩=some (.slice A n c)∧w'.cell? ⟨w.heap.size,2,none⟩=some (.bool an')∧w'.cell? ⟨w.heap.size,3,none⟩=some (.slice A' n' c')∧w'.cell? ⟨w.heap.size+1,0,none⟩=some (.bool bn)∧w'.cell? ⟨w.heap.size+1,1,none⟩=some (.slice B m d)∧w'.cell? ⟨w.heap.size+1,2,none⟩=some (.bool bn')∧w'.cell? ⟨w.heap.size+1,3,none⟩=some (.slice B' m' d'))∧RS4 (w.heap.size+1+1) 42 W w')
  (with_reducible first|(refine HS.out _ ?_;assumption)|(refine HS.out _ (RS4.drew ?_);assumption)|(refine' HS.out _ (RS4.drew (And.right ?_));rotate_left;assumption)|(refine' HS.out _ (RS4.set (And.right ?_) _ _ _ _);rotate_left;assumption))
  (first
   | (go_at_call 133;have hk:=And.right ‹_∧RS4 (w.heap.size+1+1) 42 W _›;refine (TN.out _ hk.1).mono ?_;rintro e v4 ⟨A4,k4,c4,A5,k5,c5,rfl,hk4,hk5,hW4,hW5,-,-,hb4⟩;have hZ4:RQ v4 nb A4 k4 c4 A5 k5 c5:=⟨hk4,hk5,hW4,hW5⟩;have hr:=hk.call hb4;clear hk hb4 hW4 hW5 hk4 hk5)
   | (go_at_call 78;have hk:=And.right ‹_∧RS4 (w.heap.size+1+1) 42 W _›;refine (TA.out _ hk.1 _ _ _ _ _ _ hZ4).mono ?_;rintro e v11 ⟨A11,k11,c11,A12,k12,c12,rfl,hk11,hk12,hW11,hW12,hF11,hF12,hb11⟩;have hl9:=RS4.lt hk;have hr9:=hk.call hb11;obtain ⟨_,_,_,_,f0,f1,f2,f3,f4,f5,f6,f7⟩:=hr9.four))
 all_goals
  have hfin:=retQ_close hBW (by omega) (by have:=HSZ.out;have h9:=hl9;omega) hr9 hk11 hk12 hW11 hW12 hF11 hF12;obtain ⟨d0,d1,d2,d3,-,-,-,-⟩:=(hr9.done (.bool (decide ((y).num<0))) (.slice A11 k11 c11) (.bool false) (.slice A12 k12 c12)).four;have HF:=Hj hfin;clear hfin hl9 hr9 TN TA hZ4;go_wp2;refine bodyPost_ret (v:=.agg #[.bool (decide ((y).num<0)),.slice A11 k11 c11,.bool false,.slice A12 k12 c12]) ?_ rfl HF.out;simp [results,Tryz.results79,go_sem,d0,d1,d2,d3]
theorem sgn_sub (a b:Rat):sgnQ (a-b)=cmpQ a b:=by
 have e1:(a-b).num<0↔a<b:=by
  have h:a-b<(0:Rat)↔(a-b).num<0:=by rw [Rat.lt_iff];simp
  rw [← h];constructor<;>intro h<;>grind
 have e2:0<(a-b).num↔b<a:=by
  have h:(0:Rat)<a-b↔0<(a-b).num:=by rw [Rat.lt_iff];simp
  rw [← h];constructor<;>intro h<;>grind
 unfold sgnQ cmpI cmpQ;simp only [e1,e2]
theorem rcmpq_s {s:Nat} (hs:s≤900000000) (an an' bn bn':Bool) (A A' B B':Option Addr) (n c n' c' m d m' d':Nat) (qa qb:Rat) (w:World) (ha:QS s w an A n c an' A' n' c' qa) (hb:QS s w bn B m d bn' B' m' d' qb) :
  Calls Tryz.prog 127 #[.agg #[.bool an,.slice A n c,.bool an',.slice A' n' c'],.agg #[.bool bn,.slice B m d,.bool bn',.slice B' m' d']] w fun e w'=>e=.returned (.int .i64 (cmpQ qa qb))∧Below w.heap.size w w':=by
 have TS:=Hj (fun W' (hW:Below w.heap.size w W')=>rsubq_s (by omega) an an' bn bn' A A' B B' n c n' c' m d m' d' qa qb W' (ha.below hW) (hb.below hW));have hls:=ha.ls.sub hb.ls;have TG:=Hj (fun W' (C D:Option Addr) (j e j' e':Nat) (hN:RQ W' (qa-qb) C j e D j' e')=>rsignq_s (s:=s+s+1) (by omega) (decide ((qa-qb).num<0)) false C D j e j' e' (qa-qb) W' (hN.qs hls (by omega)));rw [sgn_sub] at TG;generalize qa-qb=y at *;generalize cmpQ qa qb=cv at *;clear ha hb hls;go_enter Tryz.func127,Tryz.ntmps127
 go_wp2_with fail
 obtain ⟨hB0,hB1,hBW,hsz⟩:=pre2 w 42 #[.bool an,.slice A n c,.bool an',.slice A' n' c'] 42 #[.bool bn,.slice B m d,.bool bn',.slice B' m' d'];generalize (w.alloc (.cells #[.bool an,.slice A n c,.bool an',.slice A' n' c'] 42)).alloc (.cells #[.bool bn,.slice B m d,.bool bn',.slice B' m' d'] 42)=W at *;have HSZ:=Hj hsz;clear hsz;obtain ⟨p0,p1,p2,p3,-,-,-,-⟩:=hB0.four;obtain ⟨q0,q1,q2,q3,-,-,-,-⟩:=hB1.four;have HBW:=Hj hBW;clear hB0 hB1 hBW
 go_wp2_with fail
 refine (TS.out _ HBW.out).mono ?_;rintro e w1 ⟨A3,k3,c3,A4,k4,c4,rfl,hk3,hk4,hW3,hW4,-,-,hb3⟩;have T:=Hj (TG.out w1 A3 A4 k3 c3 k4 c4 ⟨hk3,hk4,hW3,hW4⟩);have HB:=Hj (HBW.out.trans (hb3.mono HBW.out.size));clear hW3 hW4 hb3 hk3 hk4 TS TG p0 p1 p2 p3 q0 q1 q2 q3
 go_wp2_with fail
 refine T.out.mono ?_;rintro e w2 ⟨rfl,hb2⟩;have HF:=Hj (HB.out.trans (hb2.mono HB.out.size));clear hb2 T;go_wp2;go_ret;exact ⟨rfl,HF.out⟩
theorem cmp_le (a b:Rat):decide (cmpQ a b≤0) = !decide (b<a):=by
 unfold cmpQ;by_cases h:a<b
 ·have:¬ b<a:=by grind
  simp [h,this]
 ·by_cases h2:b<a
  ·simp [h,h2]
  ·simp [h,h2]
theorem rminq_s {s:Nat} (hs:s≤900000000) (an an' bn bn':Bool) (A A' B B':Option Addr) (n c n' c' m d m' d':Nat) (qa qb:Rat) (w:World) (ha:QS s w an A n c an' A' n' c' qa) (hb:QS s w bn B m d bn' B' m' d' qb) :
  Calls Tryz.prog 77 #[.agg #[.bool an,.slice A n c,.bool an',.slice A' n' c'],.agg #[.bool bn,.slice B m d,.bool bn',.slice B' m' d']] w (RetQ w (if qb<qa then qb else qa)):=by
 have TC:=Hj (fun W' (hW:Below w.heap.size w W')=>rcmpq_s hs an an' bn bn' A A' B B' n c n' c' m d m' d' qa qb W' (ha.below hW) (hb.below hW));have TA:=Hj (fun W' (hW:Below w.heap.size w W')=>rleastq_s (by omega) an an' A A' n c n' c' qa W' (ha.below hW));have TB:=Hj (fun W' (hW:Below w.heap.size w W')=>rleastq_s (by omega) bn bn' B B' m d m' d' qb W' (hb.below hW));obtain ⟨d1,e1⟩:∃ d,decide (cmpQ qa qb≤0)=d:=⟨_,rfl⟩;have e2:=e1;rw [cmp_le] at e2;have HE:=Hj e2;obtain ⟨y,hy⟩:∃ y,y=if qb<qa then qb else qa:=⟨_,rfl⟩;rw [← hy];have HY:=Hj hy;generalize cmpQ qa qb=cv at *;clear ha hb e2 hy;go_enter Tryz.func77,Tryz.ntmps77
 go_wp2_with fail
 obtain ⟨hB0,hB1,hB2,hBW,hsz⟩:=pre3 w 42 #[.bool an,.slice A n c,.bool an',.slice A' n' c'] 42 #[.bool bn,.slice B m d,.bool bn',.slice B' m' d'] 42 #[.bool false,.slice none 0 0,.bool false,.slice none 0 0];generalize ((w.alloc (.cells #[.bool an,.slice A n c,.bool an',.slice A' n' c'] 42)).alloc (.cells #[.bool bn,.slice B m d,.bool bn',.slice B' m' d'] 42)).alloc (.cells #[.bool false,.slice none 0 0,.bool false,.slice none 0 0] 42)=W at *;have HSZ:=Hj hsz;clear hsz;obtain ⟨p0,p1,p2,p3,-,-,-,-⟩:=hB0.four;obtain ⟨q0,q1,q2,q3,-,-,-,-⟩:=hB1.four;have s5:=RS4.start hB2
 go_wp2_with fail
 refine (TC.out _ hBW).mono ?_;rintro e w1 ⟨rfl,hb1⟩;have hr2:=s5.call hb1;have HB:=Hj (hBW.trans (hb1.mono hBW.size));have hB0:=hB0.below hb1 hB0.lt;have hB1:=hB1.below hb1 hB1.lt;obtain ⟨p0,p1,p2,p3,-,-,-,-⟩:=hB0.four;obtain ⟨q0,q1,q2,q3,-,-,-,-⟩:=hB1.four;clear hb1 TC s5 hB0 hB1 hB2;cases d1
 ·have hlt:qb<qa:=by have:=HE.out;simpa using this
  obtain rfl:qb=y:=by rw [HY.out,if_pos hlt]
  clear hlt HE HY TA
  go_wp2_with fail
  refine (TB.out _ HB.out).mono ?_;rintro e w9 ⟨A9,k9,c9,A10,k10,c10,rfl,hk9,hk10,hW9,hW10,hF9,hF10,hb9⟩;have hl9:=RS4.lt hr2;have hr9:=hr2.call hb9;obtain ⟨_,_,_,_,f0,f1,f2,f3,f4,f5,f6,f7⟩:=hr9.four;have hfin:=retQ_close hBW (by omega) (by have:=HSZ.out;have h9:=hl9;omega) hr9 hk9 hk10 hW9 hW10 hF9 hF10;obtain ⟨d0,d1,d2,d3,-,-,-,-⟩:=(hr9.done (.bool (decide ((qb).num<0))) (.slice A9 k9 c9) (.bool false) (.slice A10 k10 c10)).four;have HF:=Hj hfin;clear hfin hl9 hr9 hr2 HB;go_wp2;refine bodyPost_ret (v:=.agg #[.bool (decide ((qb).num<0)),.slice A9 k9 c9,.bool false,.slice A10 k10 c10]) ?_ rfl HF.out;simp [results,Tryz.results77,go_sem,d0,d1,d2,d3]
 ·have hlt:¬ qb<qa:=by have:=HE.out;simpa using this
  obtain rfl:qa=y:=by rw [HY.out,if_neg hlt]
  clear hlt HE HY TB
  go_wp2_with fail
  refine (TA.out _ HB.out).mono ?_;rintro e w9 ⟨A9,k9,c9,A10,k10,c10,rfl,hk9,hk10,hW9,hW10,hF9,hF10,hb9⟩;have hl9:=RS4.lt hr2;have hr9:=hr2.call hb9;obtain ⟨_,_,_,_,f0,f1,f2,f3,f4,f5,f6,f7⟩:=hr9.four;have hfin:=retQ_close hBW (by omega) (by have:=HSZ.out;have h9:=hl9;omega) hr9 hk9 hk10 hW9 hW10 hF9 hF10;obtain ⟨d0,d1,d2,d3,-,-,-,-⟩:=(hr9.done (.bool (decide ((qa).num<0))) (.slice A9 k9 c9) (.bool false) (.slice A10 k10 c10)).four;have HF:=Hj hfin;clear hfin hl9 hr9 hr2 HB;go_wp2;refine bodyPost_ret (v:=.agg #[.bool (decide ((qa).num<0)),.slice A9 k9 c9,.bool false,.slice A10 k10 c10]) ?_ rfl HF.out;simp [results,Tryz.results77,go_sem,d0,d1,d2,d3]
theorem rint_any (z:Int) (w:World) (h1 : -9223372036854775808≤z) (h2:z≤9223372036854775807) :
  Calls Tryz.prog 37 #[.int .i64 z] w (RetQ w (z:Rat)):=by
 have T:=Hj (fun W=>rfrom_any z W h1 h2);have en:((z:Int):Rat).num=z:=Rat.num_intCast z;have ed:((z:Int):Rat).den=1:=Rat.den_intCast z;rw [← en] at T;rw [en] at T;generalize ((z:Int):Rat)=q at *;have ED:=Hj ed;have EN:=Hj en;clear ed en h1 h2;go_enter Tryz.func37,Tryz.ntmps37
 go_wp2_with fail
 obtain ⟨hB0,hBW,hsz⟩:=pre1 w 42 #[.bool false,.slice none 0 0,.bool false,.slice none 0 0];generalize w.alloc (.cells #[.bool false,.slice none 0 0,.bool false,.slice none 0 0] 42)=W at *;have HSZ:=Hj hsz;clear hsz;refine (T.out W).mono ?_;rw [← EN.out];rintro e w3 ⟨A3,k3,c3,rfl,hk3,hW3,hF3,hb3⟩;have hr3:=(RS4.start hB0).call hb3;obtain ⟨_,_,_,_,c0,c1,c2,c4,f0,f1,f2,f3⟩:=hr3.four;have hW4:Wat w3 none 0 (denW q.den):=by rw [ED.out];exact Wat.nil
 have hF4:Fresh W.heap.size w3 none 0:=Fresh.nil;have hfin:=retQ_close (c':=0) hBW (Nat.le_refl _) (by have:=HSZ.out;omega) hr3 hk3 (Nat.le_refl 0) hW3 hW4 hF3 hF4;obtain ⟨d0,d1,d2,d3,-,-,-,-⟩:=(hr3.done (.bool (decide (q.num<0))) (.slice A3 k3 c3) (.bool false) (.slice none 0 0)).four;have HF:=Hj hfin;clear hfin hB0 hr3 hW3 hF3 hW4 hF4 hb3;go_wp2;refine bodyPost_ret (v:=.agg #[.bool (decide (q.num<0)),.slice A3 k3 c3,.bool false,.slice none 0 0]) ?_ rfl HF.out;simp [results,Tryz.results37,go_sem,d0,d1,d2,d3]
theorem rsame_yes (neg:Bool) (A A':Option Addr) (n c c':Nat) (l:List Nat) (w:World) (h:Wat w A n l) (h':Wat w A' n l) (hm:n≤1000000) :
  Calls Tryz.prog 86 #[.agg #[.bool neg,.slice A n c],.agg #[.bool neg,.slice A' n c']] w fun e w'=>e=.returned (.bool true)∧Below w.heap.size w w':=by
 have HX:=Hj h;have HY:=Hj h';have hne:((n:Int) != (n:Int))=false:=by simp
 have hne2:(!neg == neg)=false:=by cases neg<;>rfl
 have hne3:(neg != neg)=false:=by cases neg<;>rfl
 clear h h';go_enter Tryz.func86,Tryz.ntmps86
 go_wp2_with fail
 obtain ⟨hB0,hB1,hBW,hsz⟩:=pre2 w 40 #[.bool neg,.slice A n c] 40 #[.bool neg,.slice A' n c'];generalize (w.alloc (.cells #[.bool neg,.slice A n c] 40)).alloc (.cells #[.bool neg,.slice A' n c'] 40)=W at *;have HSZ:=Hj hsz;clear hsz;have HB0:=Hj hB0;have HB1:=Hj hB1;have HBW:=Hj hBW;clear hB0 hB1 hBW
 go_loopw [5] (fun t wr=>∃ k:Nat,k≤n∧t=.int .i64 k∧Hid (Below W.heap.size W wr)) (fun t _=>n-(intOf t).toNat)
 case atStart=>exact ⟨0,Nat.zero_le _,rfl,Below.refl _ _⟩
 case round =>
  obtain ⟨k,hk,rfl,hB⟩:=hrel;obtain ⟨a0,a1,-,-⟩:=(HB0.out.below hB.out HB0.out.lt).two;obtain ⟨b0,b1,-,-⟩:=(HB1.out.below hB.out HB1.out.lt).two;by_cases hlt:k<n
  ·obtain ⟨b,o,rfl,hb,hc⟩:=HX.out.2.2 (by omega);obtain ⟨b',o',rfl,hb',hc'⟩:=HY.out.2.2 (by omega);have c1:=((HBW.out.trans (hB.out.mono HBW.out.size)).cell (p:=⟨b,o+k,none⟩) hb).trans (hc k hlt);have c2:=((HBW.out.trans (hB.out.mono HBW.out.size)).cell (p:=⟨b',o'+k,none⟩) hb').trans (hc' k hlt);have hki1:(0:Int)≤(k:Int):=by omega
   have hki2:(k:Int)<(n:Int):=by omega
   clear hc hc';have HBD:=fun q=>below_drewN hB.out q;have HBD:=Hj HBD;generalize ((l[k]?.getD 0:Nat):Int)=x at *;have d1:(x != x)=false:=by simp
   clear hB;go_wp2
   go_quiet (fail)
   go_wp2;go_roundw
   case rel=>exact ⟨k+1,by omega,by go_num,HBD.out _⟩
   case measure=>simp [intOf];omega
  ·obtain rfl:k=n:=by omega
   have hfin:Below w.heap.size w wr:=HBW.out.trans (hB.out.mono HBW.out.size);have HF:=Hj hfin;clear hfin;go_wp2;go_ret;exact ⟨rfl,HF.out⟩
abbrev QE:=Bool×(Option Addr×Nat×Nat)×Bool×(Option Addr×Nat×Nat)
abbrev QE0:QE:=(false,(none,0,0),false,(none,0,0))
def QsAtR (w:World) (A:Option Addr) (m:Nat) (es:List QE):Prop :=
 es.length=m∧(m≠0→∃ b o,A=some ⟨b,o,none⟩∧b<w.heap.size∧∀ j,j<m→w.cell? ⟨b,o+j*4,none⟩=some (.bool (es[j]?.getD QE0).1)∧w.cell? ⟨b,o+j*4+1,none⟩=some (.slice (es[j]?.getD QE0).2.1.1 (es[j]?.getD QE0).2.1.2.1 (es[j]?.getD QE0).2.1.2.2) ∧
  w.cell? ⟨b,o+j*4+2,none⟩=some (.bool (es[j]?.getD QE0).2.2.1)∧w.cell? ⟨b,o+j*4+3,none⟩=some (.slice (es[j]?.getD QE0).2.2.2.1 (es[j]?.getD QE0).2.2.2.2.1 (es[j]?.getD QE0).2.2.2.2.2))
theorem QsAtR.one {w:World} {g:Nat} {t:TypeId} {an an':Bool} {aA aA':Option Addr} {ak ac ak' ac':Nat} (h:Blk w g t #[.bool an,.slice aA ak ac,.bool an',.slice aA' ak' ac']):QsAtR w (some ⟨g,0,none⟩) 1 [(an,(aA,ak,ac),an',(aA',ak',ac'))]:=by
 refine ⟨rfl,fun _=>⟨g,0,rfl,h.lt,fun j hj=>?_⟩⟩;obtain rfl:j=0:=by omega
 exact ⟨h.cell 0,h.cell 1,h.cell 2,h.cell 3⟩
def bigQ (e:QE):Bool:=decide (6<e.2.1.2.1) || decide (6<e.2.2.2.2.1)
theorem long23_any (A:Option Addr) (m c:Nat) (es:List QE) (w:World) (h:QsAtR w A m es) (hm:m≤1000000000000) :
  Calls Tryz.prog 23 #[.slice A m c] w fun e w'=>e=.returned (.bool (es.any bigQ))∧Below w.heap.size w w':=by
 have HX:=Hj h;have HLN:=Hj h.1;clear h;go_enter Tryz.func23,Tryz.ntmps23
 go_wp2_with fail
 go_loopw [3] (fun t wr=>∃ k:Nat,k≤m∧t=.int .i64 k∧Hid (Below w.heap.size w wr∧(es.take k).any bigQ=false)) (fun t _=>m-(intOf t).toNat)
 case atStart=>exact ⟨0,Nat.zero_le _,rfl,Below.refl _ _,by simp⟩
 case round =>
  obtain ⟨k,hk,rfl,hR⟩:=hrel;by_cases hlt:k<m
  ·obtain ⟨b,o,rfl,hb,hc⟩:=HX.out.2 (by omega);obtain ⟨-,y1,-,y3⟩:=hc k hlt;have hkl:k<es.length:=by rw [HLN.out];exact hlt
   have htk:es.take (k+1)=es.take k ++ [es[k]?.getD QE0]:=by rw [List.take_add_one,List.getElem?_eq_getElem hkl];rfl
   have hany:(es.take (k+1)).any bigQ=bigQ (es[k]?.getD QE0):=by rw [htk,List.any_append,hR.out.2];simp
   have hmm:bigQ (es[k]?.getD QE0)=true→es.any bigQ=true:=fun hx=>List.any_eq_true.2 ⟨_,getD_mem hkl,hx⟩;unfold bigQ at hany hmm;generalize (es[k]?.getD QE0).2.1.1=a1 at *;generalize (es[k]?.getD QE0).2.1.2.1=n1 at *;generalize (es[k]?.getD QE0).2.1.2.2=c1 at *;generalize (es[k]?.getD QE0).2.2.2.1=a2 at *;generalize (es[k]?.getD QE0).2.2.2.2.1=n2 at *;generalize (es[k]?.getD QE0).2.2.2.2.2=c2 at *;replace y1:=(hR.out.1.cell (p:=⟨b,o+k*4+1,none⟩) hb).trans y1;replace y3:=(hR.out.1.cell (p:=⟨b,o+k*4+3,none⟩) hb).trans y3;have k1:(0:Int)≤(k:Int):=by omega
   have k2:(k:Int)<(m:Int):=by omega
   have HB:=Hj hR.out.1;have HA:=Hj hany;have HM:=Hj hmm;clear hR hc hkl htk hany hmm;by_cases h1:6<n1
   ·have d1:decide ((6:Int)<(n1:Int))=true:=by simp;omega
    have HT:=Hj (HM.out (by simp [h1]));go_wp2;go_ret;exact ⟨by have:=HT.out;unfold bigQ;rw [this];rfl,HB.out⟩
   ·have d1:decide ((6:Int)<(n1:Int))=false:=by simp;omega
    by_cases h2:6<n2
    ·have d2:decide ((6:Int)<(n2:Int))=true:=by simp;omega
     have HT:=Hj (HM.out (by simp [h2]));go_wp2;go_ret;exact ⟨by have:=HT.out;unfold bigQ;rw [this];rfl,HB.out⟩
    ·have d2:decide ((6:Int)<(n2:Int))=false:=by simp;omega
     have HF:Hid ((es.take (k+1)).any bigQ=false):=by
      show _=_;have:=HA.out;unfold bigQ;rw [this];simp [h1,h2]
     go_wp2;go_roundw
     case rel=>exact ⟨k+1,by omega,by go_num,HB.out,HF.out⟩
     case measure=>simp [intOf];omega
  ·obtain rfl:k=m:=by omega
   have HT:Hid (es.any bigQ=false):=by
    show _=_;have:=hR.out.2
    rwa [List.take_of_length_le (by rw [HLN.out];omega)] at this
   have HB:=Hj hR.out.1;clear hR;go_wp2;go_ret;exact ⟨by rw [HT.out];rfl,HB.out⟩
def QRaw (w:World) (A:Option Addr) (n c:Nat) (A':Option Addr) (n' c':Nat):Prop:=∃ l l',Wat w A n l∧Wat w A' n' l'∧n≤c∧n'≤c'
end Go.Proofs.YtjajigkacccdgaaGreat
namespace Go.Proofs.YtjajigkacccdgaaGreat
open Go
section
variable {P:Program} {ops:Array Oper} {Q:Exit→Act→World→Prop} {md:Region.Mode} {S:World→Prop}
theorem tkk {oi:Oper} {v:Value} {fuel:Nat} {listed:Array Bool} {a:Act} {w:World} (i:Nat) (hi:ops[i]?=some oi) (hc:(Region.noSelect ops && (Region.free md ops listed i && (Region.ready md ops listed).contains i))=true)
  (hQ:∀ c a w,Q (.panic c) (a.put oi.dst v) w→Q (.panic c) a w) (hy:YieldsIf P ops S oi v a) (hS:S w) (h:wpAnyH P md ops Q S fuel (listed.setIfInBounds i true) (a.put oi.dst v) w):wpAnyH P md ops Q S (fuel+1) listed a w:=by
 simp only [Bool.and_eq_true] at hc;exact wpAnyH_take hi hc.1 hc.2.1 hc.2.2 hQ hy hS h
end
end Go.Proofs.YtjajigkacccdgaaGreat
namespace Go.Proofs.YtjajigkacccdgaaGreat
open Go.RowKit
open Wd
theorem qk_raw {W:World} {an an':Bool} {A A':Option Addr} {n c n' c':Nat} {l l':List Nat} (h:Wat W A n l) (h':Wat W A' n' l') (hc:n≤c) (hc':n'≤c') (hn:n≤6) (hn':n'≤6):∃ q,QK 0 W an A n c an' A' n' c' q:=by
 have v1:=val_lt h.2.1;have v2:=val_lt h'.2.1;rw [h.1] at v1;rw [h'.1] at v2;have v3:=Nat.lt_of_lt_of_le v1 (Nat.pow_le_pow_right (by decide:0<4294967296) hn);have v4:=Nat.lt_of_lt_of_le v2 (Nat.pow_le_pow_right (by decide:0<4294967296) hn');have v5:4294967296 ^ 6+1≤PB 0:=by decide
 have b1:(qnum (sg an (val l)) (sg an' (val l'))).natAbs=val l:=by
  have:=sg_natAbs an (val l);unfold qnum;split<;>omega
 have b2:(qden (sg an' (val l'))).natAbs≤val l'+1:=by
  have:=sg_natAbs an' (val l');unfold qden;split<;>(try split)<;>omega
 exact ⟨_,_,_,⟨l,l',h,h',hc,hc',by omega,by omega,rfl,rfl⟩,by omega,by omega,rfl⟩
theorem QRaw.qs {w:World} {A A':Option Addr} {n c n' c':Nat} (h:QRaw w A n c A' n' c') (an an':Bool) (hn:n≤6) (hn':n'≤6):∃ q,QS 7 w an A n c an' A' n' c' q:=by
 obtain ⟨l,l',h1,h2,h3,h4⟩:=h;exact qk_raw h1 h2 h3 h4 hn hn'
theorem QS.arg {s:Nat} {w:World} {an an':Bool} {aA aA':Option Addr} {ak ac ak' ac':Nat} {q:Rat} (h:QS s w an aA ak ac an' aA' ak' ac' q):QArg w an aA ak ac an' aA' ak' ac' q:=⟨_,_,h⟩
end Go.Proofs.YtjajigkacccdgaaGreat
namespace Go.Proofs.YtjajigkacccdgaaGreat
open Go
open Go.RowKit
open Wd
structure Jn (P:Prop):Prop where
 out:P
theorem join_at {P Q:Prop} (h:Jn P→Q) (k:P):Q:=h ⟨k⟩
section
variable {P:Program} {ops:Array Oper} {Q:Exit→Act→World→Prop} {md:Region.Mode} {S:World→Prop}
theorem tq {oi:Oper} {v:Value} {a2:Act} {l2:Array Bool} {fuel:Nat} {listed:Array Bool} {a:Act} {w:World} (i:Nat) (h:wpAnyH P md ops Q S fuel l2 a2 w)
  (hi:ops[i]?=some oi:=by exact rfl)
  (hc:(Region.noSelect ops && (Region.free md ops listed i && (Region.ready md ops listed).contains i))=true:=by kernel_rfl)
  (hy:Region.wanted oi (yielded ops a.tmps)=true∧∀ w,S w→(execOp a.eval oi).run P w=.ok (.value v) w:=by (refine And.intro (by exact rfl) ?_;intro w hSw;(try dsimp only at hSw);(try simp only [p1,p2,p3]);go_simp;first|done|with_reducible rfl))
  (hQ:∀ c a w,Q (.panic c) (a.put oi.dst v) w→Q (.panic c) a w:=by exact fun _ _ _ h=>h)
  (hS:S w:=by assumption)
  (ha:a.put oi.dst v=a2:=by ((try simp only [Act.put,p1,p2,p3,p4,p5,p6]);exact rfl))
  (hl:listed.setIfInBounds i true=l2:=by ((try simp only [p4,p5,p6]);exact rfl)):wpAnyH P md ops Q S (fuel+1) listed a w:=by
 subst ha;subst hl;exact tkk i hi hc hQ (Or.inl hy) hS h
theorem tu {oi:Oper} {a2:Act} {l2:Array Bool} {fuel:Nat} {listed:Array Bool} {a:Act} {w:World} (i:Nat) (h:wpAnyH P md ops Q S fuel l2 a2 w)
  (hi:ops[i]?=some oi:=by exact rfl)
  (hc:(Region.noSelect ops && (Region.free md ops listed i && (Region.ready md ops listed).contains i))=true:=by kernel_rfl)
  (hy:Region.wanted oi (yielded ops a.tmps)=false:=by exact rfl)
  (hQ:∀ c a w,Q (.panic c) (a.put oi.dst undef) w→Q (.panic c) a w:=by exact fun _ _ _ h=>h)
  (hS:S w:=by assumption)
  (ha:a.put oi.dst undef=a2:=by ((try simp only [Act.put,p1,p2,p3,p4,p5,p6]);exact rfl))
  (hl:listed.setIfInBounds i true=l2:=by ((try simp only [p4,p5,p6]);exact rfl)):wpAnyH P md ops Q S (fuel+1) listed a w:=by
 subst ha;subst hl;exact tkk i hi hc hQ (Or.inr ⟨hy,rfl⟩) hS h
theorem rd1 {o:Oper} {fuel:Nat} {listed:Array Bool} {a:Act} {w:World} (i:Nat)
  (h:∀ K':Act→World→Prop,Shut (∀ a w,S w→(S w→wpAnyH P md ops Q S fuel (listed.setIfInBounds i true) a w)→K' a w)→if Region.wanted o (yielded ops a.tmps)=true then Oper.wp P o a w K' Q else K' (a.put o.dst undef) w)
  (hr:Region.ready md ops listed=[i]:=by kernel_rfl) (ho:ops[i]?=some o:=by exact rfl):wpAnyH P md ops Q S (fuel+1) listed a w :=
 wpAnyH_ready hr (by simp) (AllReadyH.cons ho h AllReadyH.nil)
theorem rd2 {o o':Oper} {fuel:Nat} {listed:Array Bool} {a:Act} {w:World} (i i':Nat)
  (h:∀ K':Act→World→Prop,Shut (∀ a w,S w→(S w→wpAnyH P md ops Q S fuel (listed.setIfInBounds i true) a w)→K' a w)→if Region.wanted o (yielded ops a.tmps)=true then Oper.wp P o a w K' Q else K' (a.put o.dst undef) w)
  (h':∀ K':Act→World→Prop,Shut (∀ a w,S w→(S w→wpAnyH P md ops Q S fuel (listed.setIfInBounds i' true) a w)→K' a w)→if Region.wanted o' (yielded ops a.tmps)=true then Oper.wp P o' a w K' Q else K' (a.put o'.dst undef) w)
  (hr:Region.ready md ops listed=[i,i']:=by kernel_rfl) (ho:ops[i]?=some o:=by exact rfl) (ho':ops[i']?=some o':=by exact rfl):wpAnyH P md ops Q S (fuel+1) listed a w :=
 wpAnyH_ready hr (by simp) (AllReadyH.cons ho h (AllReadyH.cons ho' h' AllReadyH.nil))
theorem held_at {C:World→Prop} {id:Nat} {a:Act} {W w:World} (hC:∀ w',Kp W w'→C w') (h0:Kp W w)
  (h:Hid (∀ w',Kp W w'→C w'∧Kp W w')→C w.drew∧Kp W w.drew→wpAnyH P .any ops Q (fun w'=>C w'∧Kp W w') ops.size (Array.replicate ops.size false) a w.drew) (hm:P.follows .mixedOrders=true:=by kernel_rfl):(Code.region id ops true).wp P Q a w :=
 wp_region_held_drew hm ⟨hC _ (Kp.drew h0),Kp.drew h0⟩ (fun hh=>h (Hj fun w' hk=>⟨hC w' hk,hk⟩) hh)
theorem held_front {C:World→Prop} {fr:Array Oper} {id:Nat} {a:Act} {W w:World} (N r:Nat) (hC:∀ w',Kp W w'→C w') (h0:Kp W w)
  (h:Hid (∀ w',Kp W w'→C w'∧Kp W w')→C w.drew∧Kp W w.drew→wpAnyH P .any fr (Qfr Q (wpAny P .any ops Q r (mask N r))) (fun w'=>C w'∧Kp W w') N (Array.replicate N false) a w.drew)
  (hm:P.follows .mixedOrders=true:=by kernel_rfl) (hs:splits ops N r=true:=by kernel_rfl) (hfr:(ops.toList.take N).toArray=fr:=by (simp only [List.toList_toArray,List.take_succ_cons,List.take_zero];exact rfl)):(Code.region id ops true).wp P Q a w :=
 wp_region_front N r fr (fun w'=>C w'∧Kp W w') hm hs hfr.symm ⟨hC _ (Kp.drew h0),Kp.drew h0⟩ (fun hh=>h (Hj fun w' hk=>⟨hC w' hk,hk⟩) hh)
end
def stCells (l:List (Int×Int)):List Value:=l.flatMap fun s=>[.int .i64 s.1,.int .i64 s.2]
theorem stCells_append (a b:List (Int×Int)):stCells (a ++ b)=stCells a ++ stCells b:=by simp [stCells]
theorem stCells_len (l:List (Int×Int)):(stCells l).length=l.length*2:=by
 induction l with
 | nil=>rfl
 | cons s l ih =>
  have:stCells (s :: l)=[.int .i64 s.1,.int .i64 s.2] ++ stCells l:=by simp [stCells]
  rw [this,List.length_append,ih];simp;omega
theorem stCells_get:∀ (l:List (Int×Int)) (j:Nat),j<l.length→(stCells l)[j*2]?=some (.int .i64 (l[j]?.getD (0,0)).1)∧(stCells l)[j*2+1]?=some (.int .i64 (l[j]?.getD (0,0)).2)
 | [],j,h=>absurd h (by simp)
 | s :: l,0,_=>by simp [stCells]
 | s :: l,j+1,h=>by
  have e:stCells (s :: l)=.int .i64 s.1 :: .int .i64 s.2 :: stCells l:=by simp [stCells]
  have ih:=stCells_get l j (by simpa using h);rw [e,show (j+1)*2=j*2+1+1 by omega,show j*2+1+1+1=(j*2+1)+1+1 by omega,List.getElem?_cons_succ,List.getElem?_cons_succ,List.getElem?_cons_succ,List.getElem?_cons_succ,List.getElem?_cons_succ];exact ih
theorem stCells_one (l:List (Int×Int)):∀ u∈stCells l,u.oneCell'=true:=by
 intro u hu;obtain ⟨s,_,h⟩:=List.mem_flatMap.1 hu;simp at h;rcases h with rfl|rfl<;>rfl
theorem Own.steps {base:Nat} {e:TypeId} {w:World} {A:Option Addr} {n c:Nat} {l:List (Int×Int)} (h:Own base e 2 w A n c (stCells l)) (hf:∀ s∈l,Fits s.1∧Fits s.2):StAt w A n l:=by
 have hl:l.length=n:=by have:=h.1;rw [stCells_len] at this;omega
 refine ⟨hl,hf,fun hn=>?_⟩;obtain ⟨g,cap,hv,hb,hlt⟩:=World.ownsRow.form h (by omega);simp at hv;obtain ⟨rfl,rfl⟩:=hv;have hcl:=stCells_len l;refine ⟨g,0,rfl,hlt,fun j hj=>?_⟩;obtain ⟨g1,g2⟩:=stCells_get l j (by omega);rw [Nat.zero_add,World.ownsRow.cellAt h (j*2) (by omega),World.ownsRow.cellAt h (j*2+1) (by omega)];exact ⟨g1,g2⟩
theorem info_step:(Tryz.prog.info? 107).map (fun i=>(i.zero,i.size,i.bytes))=some (some (.agg #[.int .i64 0,.int .i64 0]),2,16):=by kernel_rfl
def prs (xs:List Int):Nat→List (Int×Int)
 | 0=>[]
 | k+1=>prs xs k ++ [(xs[2*k]?.getD 0,xs[2*k+1]?.getD 0)]
theorem prs_fits {xs:List Int} (h:∀ i:Nat,Fits (xs[i]?.getD 0)):∀ k,∀ s∈prs xs k,Fits s.1∧Fits s.2
 | 0,s,hs=>by simp [prs] at hs
 | k+1,s,hs=>by
  rw [prs,List.mem_append] at hs;rcases hs with hs|hs
  ·exact prs_fits h k s hs
  ·simp at hs;rw [hs];exact ⟨h _,h _⟩
theorem curve_any (A:Option Addr) (n c:Nat) (xs:List Int) (w:World) (h:IsAt w A (2*n) xs) (hn:n≤1000000) (hf:∀ i:Nat,Fits (xs[i]?.getD 0)) :
  Calls Tryz.prog 36 #[.slice A ((2*n:Nat)) c] w fun e w'=>∃ A1 c1,e=.returned (.slice A1 n c1)∧StAt w' A1 n (prs xs n)∧Below w.heap.size w w':=by
 have HX:=Hj h;have HFT:=Hj hf;obtain ⟨ii,hii,hz0,hz1,hz2⟩:=info_parts info_step;have HI:=Hj hii;have HZ0:=Hj hz0;have HZ1:=Hj hz1;have HZ2:=Hj hz2;generalize hN:2*n=N at *;have HN:=Hj hN;clear h hf hii hz0 hz1 hz2 hN;go_enter Tryz.func36,Tryz.ntmps36
 go_wp2_with fail
 go_loopw [3,4] (fun th t wr=>∃ (i k:Nat) (Ah:Option Addr) (ch:Nat),i≤n∧t=.int .i64 (k:Int)∧th=.slice Ah i ch∧Hid (k=2*i)∧Hid (Below w.heap.size w wr∧Own w.heap.size 107 2 wr Ah i ch (stCells (prs xs i)))) (fun _ t _=>N+2-(intOf t).toNat)
 case atStart=>exact ⟨0,0,none,0,Nat.zero_le _,rfl,rfl,rfl,Below.refl _ _,Own.nil _ _ _ _⟩
 case round =>
  obtain ⟨i,k,Ah,ch,hi,rfl,rfl,hK,hR⟩:=hrel;have hki:=hK.out;have hN:=HN.out;have e0:IntKind.i64.wrap ((k:Int)+1)=(k:Int)+1:=IntWalk.i64_in _ (by omega);have e1:IntKind.i64.wrap ((k:Int)+2)=(k:Int)+2:=IntWalk.i64_in _ (by omega);by_cases hlt:i<n
  ·obtain ⟨hB,hO⟩:=hR.out;obtain ⟨g,o,rfl,hb,hc⟩:=HX.out.2 (by omega);have hc0:=hc k (by omega);have hc1:=hc (k+1) (by omega);have hsn:prs xs (i+1)=prs xs i ++ [(xs[k]?.getD 0,xs[k+1]?.getD 0)]:=by rw [hki];rfl
   have hlt1:((k:Int)+1<(N:Int)):=by omega
   have hlt2:((k:Int)<(N:Int)):=by omega
   have hlt3:((0:Int)≤(k:Int)):=by omega
   have hlt4:((0:Int)≤(k:Int)+1):=by omega
   have d1:decide ((k:Int)+1<(N:Int))=true:=decide_eq_true hlt1;have tn2:((k:Int)+1).toNat=k+1:=by omega
   generalize xs[k]?.getD 0=a at *;generalize xs[k+1]?.getD 0=b at *;have hS:∀ w',Below w.heap.size w w'→(w'.cell? ⟨g,o+k,none⟩=some (.int .i64 a)∧w'.cell? ⟨g,o+(k+1),none⟩=some (.int .i64 b))∧Below w.heap.size w w':=fun w' hk=>⟨⟨(hk.cell (p:=⟨g,_,none⟩) hb).trans hc0,(hk.cell (p:=⟨g,_,none⟩) hb).trans hc1⟩,hk⟩;have HS:=Hj hS;have HSN:=Hj hsn;have HNK:=Hj (show N=2*n∧k=2*i from ⟨hN.symm,hki⟩);have q0:=hB;have k1:=(Kp.refl wr).alloc (.cells #[.int .i64 a,.int .i64 b] 107);have q1:Below w.heap.size w (wr.alloc (.cells #[.int .i64 a,.int .i64 b] 107)):=hB.trans (Below.mono k1 hB.size);have o1:=hO.keep k1;have m1:=Blk.new wr 107 #[.int .i64 a,.int .i64 b];have hin:i≤1000000:=by omega
   clear hsn hc hc0 hc1 hR hN hki hK hS
   go_wp2_with fail
   go_region_held3 (fun w'=>(w'.cell? ⟨g,o+k,none⟩=some (.int .i64 a)∧w'.cell? ⟨g,o+(k+1),none⟩=some (.int .i64 b))∧Below w.heap.size w w')
    (first|exact HS.out _ g1|exact HS.out _ q0.drew|exact HS.out _ q1.drew)
    (first
     | (refine step_append_my (base:=w.heap.size) (e:=107) (size:=2) (bytes:=16) (by rfl) (.tmp 12) (.tmp 23) 29 rfl Tryz.underlying29 HI.out HZ0.out HZ1.out HZ2.out rfl (by decide) (xs:=stCells (prs xs i)) (news:=[.int .i64 a,.int .i64 b]) rfl (by exact o1) rfl (by exact Blk.src m1 rfl (stCells_one [(a,b)])) (by simp only [maxLen];omega) (by omega) (Below.size (w:=w) (B:=w.heap.size) (by exact q1.drew)) ?_
        intro B1 cb1 w1 hO1 hb1 hk1;have g1:Below w.heap.size w w1:=Below.trans (by exact q1.drew) hb1;clear hb1 hk1))
   have hfin:Below w.heap.size w w1∧Own w.heap.size 107 2 w1 B1 (i+1) cb1 (stCells (prs xs (i+1))):=by
    refine ⟨g1,?_⟩;rw [HSN.out,stCells_append];exact hO1
   have HF:=Hj hfin;clear hfin g1 hO1;go_wp2;go_roundw
   case rel=>exact ⟨i+1,k+2,B1,cb1,by omega,by go_num,rfl,(by have:=HNK.out;omega:k+2=2*(i+1)),HF.out⟩
   case measure =>
    have:=HNK.out;simp [intOf];omega
  ·obtain rfl:i=n:=by omega
   have d1:decide ((k:Int)+1<(N:Int))=false:=decide_eq_false (by omega);have hfin:StAt wr Ah i (prs xs i)∧Below w.heap.size w wr:=⟨hR.out.2.steps (prs_fits HFT.out _),hR.out.1⟩;have HF:=Hj hfin;clear hfin hR hN hki;go_wp2;go_ret;exact ⟨Ah,ch,rfl,HF.out⟩
theorem ris_yes (q:Rat) (A B A' B':Option Addr) (k c k' c' d d':Nat) (w:World) (h:WQ w q A k c A' k' c') (h':WQ w q B k d B' k' d') (hk:k≤1000000) (hk':k'≤1000000) :
  Calls Tryz.prog 34 #[.agg #[.bool (decide (q.num<0)),.slice A k c,.bool false,.slice A' k' c'],.agg #[.bool (decide (q.num<0)),.slice B k d,.bool false,.slice B' k' d']] w fun e w'=>e=.returned (.bool true)∧Below w.heap.size w w':=by
 have T1:=Hj (fun W (hW:Below w.heap.size w W)=>rsame_yes (decide (q.num<0)) A B k c d _ W (h.2.2.1.below hW) (h'.2.2.1.below hW) hk);have T2:=Hj (fun W (hW:Below w.heap.size w W)=>rsame_yes false A' B' k' c' d' _ W (h.2.2.2.below hW) (h'.2.2.2.below hW) hk');generalize decide (q.num<0)=s at *;clear h h';go_enter Tryz.func34,Tryz.ntmps34
 go_wp2_with fail
 obtain ⟨hB0,hB1,hBW,hsz⟩:=pre2 w 42 #[.bool s,.slice A k c,.bool false,.slice A' k' c'] 42 #[.bool s,.slice B k d,.bool false,.slice B' k' d'];generalize (w.alloc (.cells #[.bool s,.slice A k c,.bool false,.slice A' k' c'] 42)).alloc (.cells #[.bool s,.slice B k d,.bool false,.slice B' k' d'] 42)=W at *;have HSZ:=Hj hsz;clear hsz;refine (T1.out W hBW).mono ?_;rintro e w1 ⟨rfl,hb1⟩;have hB0:=hB0.below hb1 hB0.lt;have hB1:=hB1.below hb1 hB1.lt;have hb2:=hBW.trans (hb1.mono hBW.size);obtain ⟨a0,a1,a2,a3,-,-,-,-⟩:=hB0.four;obtain ⟨b0,b1,b2,b3,-,-,-,-⟩:=hB1.four;have hT2:=T2.out w1 hb2;have HB2:=Hj hb2;have HT2:=Hj hT2;clear hb1 hb2 hBW T1 T2 hT2 hB0 hB1
 go_wp2_with fail
 refine HT2.out.mono ?_;rintro e w2 ⟨rfl,hb3⟩;have hfin:=HB2.out.trans (hb3.mono HB2.out.size);have HF:=Hj hfin;clear hfin hb3 HT2;go_wp2;go_ret;exact ⟨rfl,HF.out⟩
def QsAt (w:World) (A:Option Addr) (n:Nat) (ps:List Rat):Prop :=
 ps.length=n∧(n≠0→∃ b o,A=some ⟨b,o,none⟩∧b<w.heap.size∧∀ j,j<n→∃ A1 k c A2 k' c',
  w.cell? ⟨b,o+j*4,none⟩=some (.bool (decide ((ps[j]?.getD 0).num<0)))∧w.cell? ⟨b,o+j*4+1,none⟩=some (.slice A1 k c)∧w.cell? ⟨b,o+j*4+2,none⟩=some (.bool false)∧w.cell? ⟨b,o+j*4+3,none⟩=some (.slice A2 k' c') ∧
  WQ w (ps[j]?.getD 0) A1 k c A2 k' c')
theorem QsAt.below {w w':World} {A:Option Addr} {n:Nat} {ps:List Rat} (h:QsAt w A n ps) (hb:Below w.heap.size w w'):QsAt w' A n ps:=by
 refine ⟨h.1,fun h0=>?_⟩;obtain ⟨b,o,e,hlt,hc⟩:=h.2 h0;refine ⟨b,o,e,Nat.lt_of_lt_of_le hlt hb.size,fun j hj=>?_⟩;obtain ⟨A1,k,c,A2,k',c',g0,g1,g2,g3,g4⟩:=hc j hj;exact ⟨A1,k,c,A2,k',c',(hb.cell (p:=⟨b,_,none⟩) hlt).trans g0,(hb.cell (p:=⟨b,_,none⟩) hlt).trans g1,(hb.cell (p:=⟨b,_,none⟩) hlt).trans g2,(hb.cell (p:=⟨b,_,none⟩) hlt).trans g3,g4.below hb⟩
theorem QRow.at {w:World} {g n:Nat} {ps:List Rat} (h:QRow w g n ps):QsAt w (some ⟨g,0,none⟩) n ps:=by
 obtain ⟨h1,cs,h2,h3,h4,h5⟩:=h;refine ⟨h1,fun h0=>⟨g,0,rfl,h2.lt,fun j hj=>?_⟩⟩;obtain ⟨A,k,c,A',k',c',e0,e1,e2,e3,g1,g2,g3,g4⟩:=h5 j hj;refine ⟨A,k,c,A',k',c',?_,?_,?_,?_,g1,g2,g3,g4⟩
 ·rw [Nat.zero_add,h2.cell];exact e0
 ·rw [Nat.zero_add,h2.cell];exact e1
 ·rw [Nat.zero_add,h2.cell];exact e2
 ·rw [Nat.zero_add,h2.cell];exact e3
theorem Wat.len {w:World} {A:Option Addr} {n:Nat} {l:List Nat} (h:Wat w A n l):n=l.length:=h.1.symm
theorem rrows_yes (A B:Option Addr) (n c d:Nat) (ps:List Rat) (w:World) (h:QsAt w A n ps) (h':QsAt w B n ps) (hn:n≤1000000) (hs:∀ p∈ps,(digs p.num.natAbs).length≤1000000∧(denW p.den).length≤1000000) :
  Calls Tryz.prog 33 #[.slice A n c,.slice B n d] w fun e w'=>e=.returned (.bool true)∧Below w.heap.size w w':=by
 have HX:=Hj h;have HY:=Hj h';have HSZ:=Hj hs;have hne:((n:Int) != (n:Int))=false:=by simp
 clear h h' hs;go_enter Tryz.func33,Tryz.ntmps33
 go_wp2_with fail
 go_loopw [5] (fun t wr=>∃ k:Nat,k≤n∧t=.int .i64 k∧Hid (Below w.heap.size w wr)) (fun t _=>n-(intOf t).toNat)
 case atStart=>exact ⟨0,Nat.zero_le _,rfl,Below.refl _ _⟩
 case round =>
  obtain ⟨k,hk,rfl,hB⟩:=hrel;by_cases hlt:k<n
  ·obtain ⟨b,o,rfl,hb,hc⟩:=HX.out.2 (by omega);obtain ⟨b',o',rfl,hb',hc'⟩:=HY.out.2 (by omega);obtain ⟨A1,k1,d1,A2,k2,d2,e0,e1,e2,e3,e4⟩:=hc k hlt;obtain ⟨B1,k3,d3,B2,k4,d4,f0,f1,f2,f3,f4⟩:=hc' k hlt;have hp:=HSZ.out (ps[k]?.getD 0) (by rw [List.getElem?_eq_getElem (by rw [HX.out.1];exact hlt)];exact List.getElem_mem _);obtain rfl:k1=k3:=e4.2.2.1.len.trans f4.2.2.1.len.symm;obtain rfl:k2=k4:=e4.2.2.2.len.trans f4.2.2.2.len.symm;have T:=fun W (hW:Kp wr W)=>ris_yes _ A1 B1 A2 B2 k1 d1 k2 d2 d3 d4 W ((e4.below hB.out).below hW) ((f4.below hB.out).below hW) (by rw [e4.2.2.1.len];exact hp.1) (by rw [e4.2.2.2.len];exact hp.2);have HT:=Hj T;have hki1:(0:Int)≤(k:Int):=by omega
   have hki2:(k:Int)<(n:Int):=by omega
   have c0:=(hB.out.cell (p:=⟨b,o+k*4,none⟩) hb).trans e0;have c1:=(hB.out.cell (p:=⟨b,o+k*4+1,none⟩) hb).trans e1;have c2:=(hB.out.cell (p:=⟨b,o+k*4+2,none⟩) hb).trans e2;have c3:=(hB.out.cell (p:=⟨b,o+k*4+3,none⟩) hb).trans e3;have g0:=(hB.out.cell (p:=⟨b',o'+k*4,none⟩) hb').trans f0;have g1:=(hB.out.cell (p:=⟨b',o'+k*4+1,none⟩) hb').trans f1;have g2:=(hB.out.cell (p:=⟨b',o'+k*4+2,none⟩) hb').trans f2;have g3:=(hB.out.cell (p:=⟨b',o'+k*4+3,none⟩) hb').trans f3;generalize decide ((ps[k]?.getD 0).num<0)=s at *;have hb1:b<wr.heap.size:=Nat.lt_of_lt_of_le hb hB.out.size;have hb1':b'<wr.heap.size:=Nat.lt_of_lt_of_le hb' hB.out.size;have hS:∀ w',Kp wr w'→(w'.cell? ⟨b,o+k*4,none⟩=some (.bool s)∧w'.cell? ⟨b,o+k*4+1,none⟩=some (.slice A1 k1 d1)∧w'.cell? ⟨b,o+k*4+2,none⟩=some (.bool false)∧w'.cell? ⟨b,o+k*4+3,none⟩=some (.slice A2 k2 d2)∧w'.cell? ⟨b',o'+k*4,none⟩=some (.bool s)∧w'.cell? ⟨b',o'+k*4+1,none⟩=some (.slice B1 k1 d3)∧w'.cell? ⟨b',o'+k*4+2,none⟩=some (.bool false)∧w'.cell? ⟨b',o'+k*4+3,none⟩=some (.slice B2 k2 d4))∧Kp wr w':=fun w' hk=>⟨⟨(hk.cell (p:=⟨b,_,none⟩) hb1).trans c0,(hk.cell (p:=⟨b,_,none⟩) hb1).trans c1,(hk.cell (p:=⟨b,_,none⟩) hb1).trans c2,(hk.cell (p:=⟨b,_,none⟩) hb1).trans c3,(hk.cell (p:=⟨b',_,none⟩) hb1').trans g0,(hk.cell (p:=⟨b',_,none⟩) hb1').trans g1,(hk.cell (p:=⟨b',_,none⟩) hb1').trans g2,(hk.cell (p:=⟨b',_,none⟩) hb1').trans g3⟩,hk⟩;have HS:=Hj hS;have k0:=Kp.refl wr;clear hc hc' T e0 e1 e2 e3 e4 f0 f1 f2 f3 f4 hp hS c0 c1 c2 c3 g0 g1 g2 g3
   go_wp2_with fail
   go_region_held3 (fun w'=>(w'.cell? ⟨b,o+k*4,none⟩=some (.bool s)∧w'.cell? ⟨b,o+k*4+1,none⟩=some (.slice A1 k1 d1)∧w'.cell? ⟨b,o+k*4+2,none⟩=some (.bool false)∧w'.cell? ⟨b,o+k*4+3,none⟩=some (.slice A2 k2 d2)∧w'.cell? ⟨b',o'+k*4,none⟩=some (.bool s)∧w'.cell? ⟨b',o'+k*4+1,none⟩=some (.slice B1 k1 d3)∧w'.cell? ⟨b',o'+k*4+2,none⟩=some (.bool false)∧w'.cell? ⟨b',o'+k*4+3,none⟩=some (.slice B2 k2 d4))∧Kp wr w')
    (with_reducible first|(refine HS.out _ ?_;assumption)|(refine HS.out _ (Kp.drew ?_);assumption)|(refine' HS.out _ (Kp.drew (And.right ?_));rotate_left;assumption))
    (first
     | (go_at_call 34;have hk:=And.right ‹_∧Kp wr _›;refine (HT.out _ hk).mono ?_;rintro e w2 ⟨rfl,hb3⟩;have hk3:=hk.trans hb3))
   have hfin:=hB.out.trans (Below.mono hk3 hB.out.size);have HF:=Hj hfin;clear hfin hb3 HT;go_wp2;go_roundw
   case rel=>exact ⟨k+1,by omega,by go_num,HF.out⟩
   case measure=>simp [intOf];omega
  ·obtain rfl:k=n:=by omega
   go_wp2;go_ret;exact ⟨rfl,hB.out⟩
def SameOr (w:World) (B B':Option Addr):Prop:=B'.map (fun a=>a.block)=B.map (fun a=>a.block)∨B'.map (fun a=>a.block)=some w.heap.size
theorem run_append_at {P:Program} {w:World} {base:Nat} {t ty e:TypeId} {i:TypeInfo} {z:Value} {size bytes:Nat} (ht:P.underlying t=some (.slice e)) (hi:P.info? e=some i) (hz:i.zero=some z)
  (hsize:i.size=size) (hby:i.bytes=bytes) (hzs:z.cells.size=size) (hsz:0<size)
  {B:Option Addr} {n cb:Nat} {xs:List Value} (hown:Own base e size w B n cb xs) {A:Option Addr} {m c:Nat} {news:List Value} (hs:SrcAt w A m size news)
  (h63:n+m≤maxLen) (hbytes:(n+m)*bytes≤140737488355328) (hbase:base≤w.heap.size) :
  ∃ B' cb' w',(Builtin.append_ #[t,t] ty #[.slice B n cb,.slice A m c]).run P w=.ok (.slice B' (n+m) cb') w'∧Own base e size w' B' (n+m) cb' (xs ++ news)∧Below base w w'∧Kept w w' B∧SameOr w B B':=by
 obtain ⟨h1,h2,h3⟩:=hs;rcases h3 with ⟨rfl,rfl⟩|⟨ad,rfl,h3⟩
 ·have e1:news=[]:=List.eq_nil_of_length_eq_zero (by simpa using h1);subst e1;refine ⟨B,cb,w,?_,by simpa using hown,Below.refl _ _,⟨Nat.le_refl _,fun _ _ _=>rfl⟩,Or.inl rfl⟩;have hle:n≤cb:=by
   rcases hown.2 with ⟨h4,_⟩|⟨g,cap,cur,h4,_,_,hnc,_⟩
   ·simp at h4;omega
   ·simp at h4;omega
  rcases hown.2 with ⟨h4,h5⟩|⟨g,cap,cur,h4,_,_,hnc,_⟩
  ·simp at h4;obtain ⟨rfl,rfl,rfl⟩:=h4;simp [Builtin.append_,run_underlying ht,sizeOf,typeInfo,hi,Builtin.lenOf,Builtin.firstCells]
  ·simp at h4;obtain ⟨rfl,rfl⟩:=h4;simp [Builtin.append_,run_underlying ht,sizeOf,typeInfo,hi,Builtin.lenOf,Builtin.firstCells,hnc,storeCells]
 ·obtain ⟨v',w',hr,ho,hg,_,hsame⟩:=run_append_own_at (P:=P) (w:=w) base t ty e i z size bytes ht hi hz hsize hby hzs hsz _ n xs hown ad m c news h1 h3 h2 h63 hbytes hbase;have hB:Below base w w':=⟨hg.os,hg.tape,hg.output,hg.size,fun k hk=>hg.block k (by omega) fun he=>by have:=(hown.lt k he.symm).1;omega⟩;have eo:∀ X:Option Addr,∀ a b,(Value.slice X a b).ownBlock=X.map (fun a=>a.block):=fun X a b=>by cases X<;>rfl
  have hK:Kept w w' B:=⟨hg.size,fun k hk hne=>hg.block k hk fun he=>hne (by rw [eo] at he;exact he.symm)⟩;rcases ho.2 with ⟨rfl,h5⟩|⟨g,cap,cur,rfl,_⟩
  ·exact ⟨none,0,w',by rw [hr,h5],by rw [h5] at ho ⊢;exact ho,hB,hK,by simpa [SameOr,eo] using hsame⟩
  ·exact ⟨some ⟨g,0,none⟩,cap,w',hr,ho,hB,hK,by simpa [SameOr,eo] using hsame⟩
theorem wp_append_at {P:Program} {w:World} {o:Oper} {a:Act} {K:Act→World→Prop} {Q:Exit→Act→World→Prop} (s x:Operand) (t:TypeId)
  (ho:o.op=.call { callee:=.builtin .append,args:=#[s,x],argTypes:=#[t,t] })
  {base:Nat} {e:TypeId} {i:TypeInfo} {z:Value} {size bytes:Nat} (ht:P.underlying t=some (.slice e)) (hi:P.info? e=some i) (hz:i.zero=some z)
  (hsize:i.size=size) (hby:i.bytes=bytes) (hzs:z.cells.size=size) (hsz:0<size)
  {B:Option Addr} {n cb:Nat} {xs:List Value} (hss:a.eval s=.slice B n cb) (hown:Own base e size w B n cb xs) {A:Option Addr} {m c:Nat} {news:List Value} (hx:a.eval x=.slice A m c) (hs:SrcAt w A m size news)
  (h63:n+m≤maxLen) (hbytes:(n+m)*bytes≤140737488355328) (hbase:base≤w.heap.size)
  (h:∀ B' cb' w',Own base e size w' B' (n+m) cb' (xs ++ news)→Below base w w'→Kept w w' B→SameOr w B B'→K (a.put o.dst (.slice B' (n+m) cb')) w'):o.wp P a w K Q:=by
 obtain ⟨B',cb',w',hr,h2,h3,h4,h5⟩:=run_append_at (P:=P) (ty:=o.type) (c:=c) ht hi hz hsize hby hzs hsz hown hs h63 hbytes hbase;unfold Oper.wp execOp;simp only [ho,resolve,invoke,builtin,Sem.run_bind,Sem.run_pure,Result.andThen_ok,List.map_toArray,List.map_cons,List.map_nil,hss,hx,hr];exact h B' cb' w' h2 h3 h4 h5
theorem wpList_append_at {P:Program} {w:World} {ops:Array Oper} {rest:List Oper} {o:Oper} {a:Act} {Q:Exit→Act→World→Prop} (hg:o.guard=none) (s x:Operand) (t:TypeId)
  (ho:o.op=.call { callee:=.builtin .append,args:=#[s,x],argTypes:=#[t,t] })
  {base:Nat} {e:TypeId} {i:TypeInfo} {z:Value} {size bytes:Nat} (ht:P.underlying t=some (.slice e)) (hi:P.info? e=some i) (hz:i.zero=some z)
  (hsize:i.size=size) (hby:i.bytes=bytes) (hzs:z.cells.size=size) (hsz:0<size)
  {B:Option Addr} {n cb:Nat} {xs:List Value} (hss:a.eval s=.slice B n cb) (hown:Own base e size w B n cb xs) {A:Option Addr} {m c:Nat} {news:List Value} (hx:a.eval x=.slice A m c) (hs:SrcAt w A m size news)
  (h63:n+m≤maxLen) (hbytes:(n+m)*bytes≤140737488355328) (hbase:base≤w.heap.size)
  (h:∀ B' cb' w',Own base e size w' B' (n+m) cb' (xs ++ news)→Below base w w'→Kept w w' B→SameOr w B B'→wpList P ops Q rest (a.put o.dst (.slice B' (n+m) cb')) w') :
  wpList P ops Q (o :: rest) a w :=
 wpList_plain hg fun K hK=>wp_append_at s x t ho ht hi hz hsize hby hzs hsz hss hown hx hs h63 hbytes hbase fun B' cb' w' h1 h2 h3 h4=>hK _ _ (h B' cb' w' h1 h2 h3 h4)
end Go.Proofs.YtjajigkacccdgaaGreat
