/-
Lemmas of the walk; no further conditions.
-/
import Derived.Test.YtjajigkacccdgaaGreatTiAG
import Derived.RangeFuncBox
import Derived.RangeFuncNested
import Derived.RangeFuncLeaves
import Derived.Shelf.Abstract
import Derived.OwnWalkIn
import Derived.TacticsInMore
import Derived.LoopNIn
import Derived.LoopIn
import Derived.Maps.AppendAt
import Derived.OrdersIn
import Derived.OrdersHeld
import Derived.Deep.RegionHeld3
set_option linter.unusedVariables false
set_option linter.unusedSimpArgs false
set_option maxRecDepth 100000
set_option maxHeartbeats 16000000
namespace Go.Proofs.YtjajigkacccdgaaGreat
open Go.RowKit
open Wd
def cmpQ (a b:Rat):Int:=if a<b then -1 else if b<a then 1 else 0
theorem mk_lt (n1 n2 d1 d2:Int) (h1:0<d1) (h2:0<d2):mkRat n1 d1.natAbs<mkRat n2 d2.natAbs↔n1*d2<n2*d1:=by
 have e:=rat_sub n2 n1 d2 d1 h2 h1;have hs:=sgn_mk (n2*d1-n1*d2) (d2*d1) (Int.mul_pos h2 h1);rw [← e] at hs;have hlt:mkRat n1 d1.natAbs<mkRat n2 d2.natAbs↔0<(mkRat n2 d2.natAbs-mkRat n1 d1.natAbs).num:=by
  have h0:(0:Rat)<mkRat n2 d2.natAbs-mkRat n1 d1.natAbs↔0<(mkRat n2 d2.natAbs-mkRat n1 d1.natAbs).num:=by
   rw [Rat.lt_iff];simp
  rw [← h0];constructor<;>intro h<;>grind
 rw [hlt];unfold cmpI at hs;constructor
 ·intro h;rw [if_neg (by omega),if_pos h] at hs;split at hs
  ·omega
  ·split at hs<;>omega
 ·intro h;rw [if_neg (c:=n2*d1-n1*d2<0) (by omega),if_pos (c:=0<n2*d1-n1*d2) (by omega)] at hs;split at hs
  ·omega
  ·split at hs<;>omega
theorem cmpQ_mk (n1 n2 d1 d2:Int) (h1:0<d1) (h2:0<d2):cmpQ (mkRat n1 d1.natAbs) (mkRat n2 d2.natAbs)=cmpI (n1*d2) (n2*d1):=by
 unfold cmpQ cmpI;simp only [mk_lt _ _ _ _ h1 h2,mk_lt _ _ _ _ h2 h1]
theorem len_mul {w w':World} {m1 m2:Bool} {B1 B2:Option Addr} {j1 d1 j2 d2:Nat} {r1 r2:List Nat} {z1 z2:Int} (h1:ZIn w m1 B1 j1 d1 r1 z1) (h2:ZIn w' m2 B2 j2 d2 r2 z2):(digs (z1*z2).natAbs).length≤20000000000:=by
 have a1:=val_lt h1.1.2.1;have a2:=val_lt h2.1.2.1;rw [h1.1.1] at a1;rw [h2.1.1] at a2;have:(digs (z1*z2).natAbs).length≤j1+j2:=by
  rw [digs_len_le,Int.natAbs_mul,← h1.abs,← h2.abs,Nat.pow_add];exact Nat.mul_lt_mul'' a1 a2
 have b1:=h1.2.2.1;have b2:=h2.2.2.1;omega
theorem fsign_any (n:Int) (w:World):Calls Tryz.prog 95 #[.int .i64 n] w fun e w'=>e=.returned (.int .i64 (cmpI n 0))∧w=w':=by
 rcases Int.lt_trichotomy n 0 with h|h|h
 ·rw [cmpI_lt h];go_enter Tryz.func95,Tryz.ntmps95;go_wp2;go_ret;exact ⟨rfl,rfl⟩
 ·subst h;go_enter Tryz.func95,Tryz.ntmps95;go_wp2;go_ret;exact ⟨rfl,rfl⟩
 ·rw [cmpI_gt h];go_enter Tryz.func95,Tryz.ntmps95;go_wp2;go_ret;exact ⟨rfl,rfl⟩
theorem cmp_signs (n1 n2 d1 d2:Int) (h1:0<d1) (h2:0<d2) (h:cmpI n1 0≠cmpI n2 0∨cmpI n1 0=0):cmpI (n1*d2) (n2*d1)=cmpI (cmpI n1 0-cmpI n2 0) 0:=by
 have a1:n1<0→n1*d2<0:=fun h=>Int.mul_neg_of_neg_of_pos h h2;have a2:0<n1→0<n1*d2:=fun h=>Int.mul_pos h h2;have b1:n2<0→n2*d1<0:=fun h=>Int.mul_neg_of_neg_of_pos h h1;have b2:0<n2→0<n2*d1:=fun h=>Int.mul_pos h h1;have a3:n1=0→n1*d2=0:=fun h=>by rw [h,Int.zero_mul]
 have b3:n2=0→n2*d1=0:=fun h=>by rw [h,Int.zero_mul]
 generalize n1*d2=p at *;generalize n2*d1=r at *;rcases Int.lt_trichotomy n1 0 with g|g|g<;>rcases Int.lt_trichotomy n2 0 with k|k|k
 all_goals
  (try have:=a1 g)
  (try have:=a2 g)
  (try have:=a3 g)
  (try have:=b1 k)
  (try have:=b2 k)
  (try have:=b3 k)
  (first|rw [cmpI_lt g] at * | rw [cmpI_eq g] at * | rw [cmpI_gt g] at *)
  (first|rw [cmpI_lt k] at * | rw [cmpI_eq k] at * | rw [cmpI_gt k] at *)
  unfold cmpI
  (try (exfalso;omega))
  (try (split<;>(try split)<;>omega))
theorem qcmp_any {Nn Nd:Nat} (an an' bn bn':Bool) (aA aA' bA bA':Option Addr) (ak ac ak' ac' bk bc bk' bc':Nat) (qa qb:Rat) (w:World)
  (ha:QAt Nn Nd w an aA ak ac an' aA' ak' ac' qa) (hb:QAt Nn Nd w bn bA bk bc bn' bA' bk' bc' qb) :
  Calls Tryz.prog 43 #[.agg #[.bool an,.slice aA ak ac,.bool an',.slice aA' ak' ac'],.agg #[.bool bn,.slice bA bk bc,.bool bn',.slice bA' bk' bc']] w fun e w'=>e=.returned (.int .i64 (cmpQ qa qb))∧Below w.heap.size w w':=by
 obtain ⟨na,da,hia,hna,hda,rfl⟩:=ha;obtain ⟨nb,db,hib,hnb,hdb,rfl⟩:=hb;have hp1:=qden_pos da;have hp2:=qden_pos db;rw [cmpQ_mk _ _ _ _ hp1 hp2];have P1:=fun W hW=>parts_in (w:=W) (h:=hia.below (w':=W) hW);have P2:=fun W hW=>parts_in (w:=W) (h:=hib.below (w':=W) hW);generalize qnum na da=x1 at *;generalize qden da=x2 at *;generalize qnum nb db=x3 at *;generalize qden db=x4 at *;have hcs:=cmp_signs x1 x3 x2 x4 hp1 hp2;have HCS:=Hj hcs;have P1:=Hj P1;have P2:=Hj P2;clear hcs hna hda hnb hdb hia hib;go_enter Tryz.func43,Tryz.ntmps43
 go_wp2_with fail
 obtain ⟨hB0,hB1,hBW,hsz⟩:=pre2 w 42 #[.bool an,.slice aA ak ac,.bool an',.slice aA' ak' ac'] 42 #[.bool bn,.slice bA bk bc,.bool bn',.slice bA' bk' bc'];generalize (w.alloc (.cells #[.bool an,.slice aA ak ac,.bool an',.slice aA' ak' ac'] 42)).alloc (.cells #[.bool bn,.slice bA bk bc,.bool bn',.slice bA' bk' bc'] 42)=W at *;have HSZ:=Hj hsz;clear hsz;refine (P1.out W hBW).mono ?_;rintro e w1 ⟨m1,B1,j1,d1,r1,m2,B2,j2,d2,r2,rfl,hj1,hj2,hl1,hl2,hW1,hW2,hs1,hs2,hb1⟩;have hB0:=hB0.below hb1 hB0.lt;have hB1:=hB1.below hb1 hB1.lt;have hBW:Below w.heap.size w w1:=hBW.trans (hb1.mono hBW.size);have Z1:ZIn w1 m1 B1 j1 d1 r1 x1:=⟨hW1,hj1,hl1,hs1⟩;have Z2:ZIn w1 m2 B2 j2 d2 r2 x2:=⟨hW2,hj2,hl2,hs2⟩;have hB1:=(hB1.alloc (.cells #[.bool m1,.slice B1 j1 d1] 40)).alloc (.cells #[.bool m2,.slice B2 j2 d2] 40);obtain ⟨c0,c1,c2,c3,-,-,-,-⟩:=hB1.four;clear hW1 hW2 hs1 hs2 hb1 hB0 HSZ P1
 go_wp2_with fail
 clear c0 c1 c2 c3;have hC0:=(Blk.new w1 40 #[.bool m1,.slice B1 j1 d1]).alloc (.cells #[.bool m2,.slice B2 j2 d2] 40);have hC1:=Blk.new1 w1 (.cells #[.bool m1,.slice B1 j1 d1] 40) 40 #[.bool m2,.slice B2 j2 d2];have hBa:Below w1.heap.size w1 ((w1.alloc (.cells #[.bool m1,.slice B1 j1 d1] 40)).alloc (.cells #[.bool m2,.slice B2 j2 d2] 40)):=((Below.refl _ _).alloc (Nat.le_refl _) _).alloc (by simp only [World.size_alloc];omega) _;have hsz:((w1.alloc (.cells #[.bool m1,.slice B1 j1 d1] 40)).alloc (.cells #[.bool m2,.slice B2 j2 d2] 40)).heap.size=w1.heap.size+1+1:=by simp
 generalize (w1.alloc (.cells #[.bool m1,.slice B1 j1 d1] 40)).alloc (.cells #[.bool m2,.slice B2 j2 d2] 40)=Wa at *;have HSA:=Hj hsz;clear hsz;have hBa':Below w.heap.size w Wa:=hBW.trans (hBa.mono hBW.size);have Z1:=Z1.below hBa;have Z2:=Z2.below hBa;refine (P2.out Wa hBa').mono ?_;rintro e w2 ⟨m3,B3,j3,d3,r3,m4,B4,j4,d4,r4,rfl,hj3,hj4,hl3,hl4,hW3,hW4,hs3,hs4,hb2⟩;have hC0:=hC0.below hb2 hC0.lt;have hC1:=hC1.below hb2 hC1.lt;have Z1:=Z1.below hb2;have Z2:=Z2.below hb2;have hBb:Below w.heap.size w w2:=hBa'.trans (hb2.mono hBa'.size);have Z3:ZIn w2 m3 B3 j3 d3 r3 x3:=⟨hW3,hj3,hl3,hs3⟩;have Z4:ZIn w2 m4 B4 j4 d4 r4 x4:=⟨hW4,hj4,hl4,hs4⟩;clear hW3 hW4 hs3 hs4 hb2 hB1 P2 hBa hBa' hBW HSA
 go_wp2_with fail
 have hC0:=(hC0.alloc (.cells #[.bool m3,.slice B3 j3 d3] 40)).alloc (.cells #[.bool m4,.slice B4 j4 d4] 40);have hC1:=(hC1.alloc (.cells #[.bool m3,.slice B3 j3 d3] 40)).alloc (.cells #[.bool m4,.slice B4 j4 d4] 40);have hD0:=(Blk.new w2 40 #[.bool m3,.slice B3 j3 d3]).alloc (.cells #[.bool m4,.slice B4 j4 d4] 40);have hD1:=Blk.new1 w2 (.cells #[.bool m3,.slice B3 j3 d3] 40) 40 #[.bool m4,.slice B4 j4 d4];have hBc:Below w2.heap.size w2 ((w2.alloc (.cells #[.bool m3,.slice B3 j3 d3] 40)).alloc (.cells #[.bool m4,.slice B4 j4 d4] 40)):=((Below.refl _ _).alloc (Nat.le_refl _) _).alloc (by simp only [World.size_alloc];omega) _;have hsz:((w2.alloc (.cells #[.bool m3,.slice B3 j3 d3] 40)).alloc (.cells #[.bool m4,.slice B4 j4 d4] 40)).heap.size=w2.heap.size+1+1:=by simp
 generalize (w2.alloc (.cells #[.bool m3,.slice B3 j3 d3] 40)).alloc (.cells #[.bool m4,.slice B4 j4 d4] 40)=Wb at *;have HSB:=Hj hsz;clear hsz;have hBW:Below w.heap.size w Wb:=hBb.trans (hBc.mono hBb.size);have hZ:∀ w',Kp Wb w'→ZIn w' m1 B1 j1 d1 r1 x1∧ZIn w' m2 B2 j2 d2 r2 x2∧ZIn w' m3 B3 j3 d3 r3 x3∧ZIn w' m4 B4 j4 d4 r4 x4:=fun w' hb=>⟨(Z1.below hBc).below hb,(Z2.below hBc).below hb,(Z3.below hBc).below hb,(Z4.below hBc).below hb⟩;have G1:=fun w' (hb:Kp Wb w')=>sign_any m1 B1 j1 d1 r1 w' (hZ w' hb).1.1 hj1 (by omega);have G3:=fun w' (hb:Kp Wb w')=>sign_any m3 B3 j3 d3 r3 w' (hZ w' hb).2.2.1.1 hj3 (by omega);have L1:=fun w' (hb:Kp Wb w')=>mul_in (hZ w' hb).1 (hZ w' hb).2.2.2;have L2:=fun w' (hb:Kp Wb w')=>mul_in (hZ w' hb).2.2.1 (hZ w' hb).2.1;rw [Z1.2.2.2] at G1;rw [Z3.2.2.2] at G3;have G1:=Hj G1;have G3:=Hj G3;have L1:=Hj L1;have L2:=Hj L2;have LN1:=Hj (len_mul Z1 Z4);have LN2:=Hj (len_mul Z3 Z2);clear hZ Z1 Z2 Z3 Z4 hBc hBb HSB;have s5:=Kp.refl Wb;have hrg:∀ x:Int,-1≤cmpI x 0∧cmpI x 0≤1:=fun x=>by unfold cmpI;split<;>(try split)<;>omega
 obtain ⟨r1a,r1b⟩:=hrg x1;obtain ⟨r3a,r3b⟩:=hrg x3;generalize hg1:cmpI x1 0=g1 at *;generalize hg3:cmpI x3 0=g3 at *;have HG1:=Hj hg1;have HG3:=Hj hg3;clear hrg hg1 hg3;have hS:∀ w',Kp Wb w'→(w'.cell? ⟨w1.heap.size,0,none⟩=some (.bool m1)∧w'.cell? ⟨w1.heap.size,1,none⟩=some (.slice B1 j1 d1)∧w'.cell? ⟨w1.heap.size+1,0,none⟩=some (.bool m2)∧w'.cell? ⟨w1.heap.size+1,1,none⟩=some (.slice B2 j2 d2)∧w'.cell? ⟨w2.heap.size,0,none⟩=some (.bool m3)∧w'.cell? ⟨w2.heap.size,1,none⟩=some (.slice B3 j3 d3)∧w'.cell? ⟨w2.heap.size+1,0,none⟩=some (.bool m4)∧w'.cell? ⟨w2.heap.size+1,1,none⟩=some (.slice B4 j4 d4))∧Kp Wb w':=fun w' hk=>⟨⟨(hk.blk hC0).cell 0,(hk.blk hC0).cell 1,(hk.blk hC1).cell 0,(hk.blk hC1).cell 1,(hk.blk hD0).cell 0,(hk.blk hD0).cell 1,(hk.blk hD1).cell 0,(hk.blk hD1).cell 1⟩,hk⟩;have HS:=Hj hS;clear hS
 go_region_held3 (fun w'=>(w'.cell? ⟨w1.heap.size,0,none⟩=some (.bool m1)∧w'.cell? ⟨w1.heap.size,1,none⟩=some (.slice B1 j1 d1)∧w'.cell? ⟨w1.heap.size+1,0,none⟩=some (.bool m2)∧w'.cell? ⟨w1.heap.size+1,1,none⟩=some (.slice B2 j2 d2)∧w'.cell? ⟨w2.heap.size,0,none⟩=some (.bool m3)∧w'.cell? ⟨w2.heap.size,1,none⟩=some (.slice B3 j3 d3)∧w'.cell? ⟨w2.heap.size+1,0,none⟩=some (.bool m4)∧w'.cell? ⟨w2.heap.size+1,1,none⟩=some (.slice B4 j4 d4))∧Kp Wb w')
  (with_reducible first|(refine HS.out _ ?_;assumption)|(refine HS.out _ (Kp.drew ?_);assumption)|(refine' HS.out _ (Kp.drew (And.right ?_));rotate_left;assumption))
  (first
   | (go_at_call_of 94 (Value.agg #[.bool m1,.slice B1 j1 d1]);have hk:=And.right ‹_∧Kp Wb _›;refine (G1.out _ hk).mono ?_;rintro e v1 ⟨rfl,hb1⟩;have hr1:=hk.trans hb1;clear hb1)
   | (go_at_call_of 94 (Value.agg #[.bool m3,.slice B3 j3 d3]);have hk:=And.right ‹_∧Kp Wb _›;refine (G3.out _ hk).mono ?_;rintro e v2 ⟨rfl,hb2⟩;have hr2:=hk.trans hb2;clear hb2))
 have hB2:Below w.heap.size w v2:=hBW.trans (Below.mono hr2 hBW.size);clear G1 G3;by_cases hc:g1≠g3∨g1=0
 ·have hfin:=HCS.out hc;have HFIN:=Hj hfin;have hc2:(g1 != g3)=true∨((g1 != g3)=false∧(g1 == 0)=true):=by
   by_cases h:g1=g3
   ·right;refine ⟨by simp [h],?_⟩;rcases hc with h'|h'
    ·exact absurd h h'
    ·simp [h']
   ·left;simpa using h
  have hws:=wrap_in (g1-g3) (by omega) (by omega);obtain ⟨ws1,ws2⟩:=hws;clear hfin hc L1 L2;rcases hc2 with h|⟨h,h'⟩
  all_goals
   go_wp2_with fail
   refine (fsign_any (g1-g3) v2).mono ?_;rintro e w' ⟨rfl,rfl⟩;go_wp2;go_ret;rw [HFIN.out];exact ⟨rfl,hB2⟩
 ·have h1:(g1 != g3)=false:=by simp;omega
  have h2:(g1 == 0)=false:=by simp;omega
  have s6:Kp Wb v2:=hr2;clear hc;have hXX:∀ (v:World) (X1 X2:Option Addr) (u1 u2 y1 y2:Nat),u1≤y1→u2≤y2→Wat v X1 u1 (digs (x1*x4).natAbs)→Wat v X2 u2 (digs (x3*x2).natAbs)→u1≤9223372036854775807→u2≤9223372036854775807 →
    Calls Tryz.prog 96 #[.agg #[.bool (decide (x1*x4<0)),.slice X1 u1 y1],.agg #[.bool (decide (x3*x2<0)),.slice X2 u2 y2]] v fun e w'=>e=.returned (.int .i64 (cmpI (x1*x4) (x3*x2)))∧Below v.heap.size v w':=by
   intro v X1 X2 u1 u2 y1 y2 a1 a2 a3 a4 a5 a6;have:=cmp_any (decide (x1*x4<0)) (decide (x3*x2<0)) X1 X2 u1 u2 y1 y2 _ _ v a3 a4 a1 a2 a5 a6
   rwa [val_digs,val_digs,sg_self,sg_self] at this
  generalize hy1:x1*x4=y1 at *;generalize hy2:x3*x2=y2 at *;have HY1:=Hj hy1;have HY2:=Hj hy2;clear hy1 hy2;have HXX:=Hj hXX;clear hXX
  go_wp2_with fail
  have hS:∀ w',Kp Wb w'→(w'.cell? ⟨w1.heap.size,0,none⟩=some (.bool m1)∧w'.cell? ⟨w1.heap.size,1,none⟩=some (.slice B1 j1 d1)∧w'.cell? ⟨w1.heap.size+1,0,none⟩=some (.bool m2)∧w'.cell? ⟨w1.heap.size+1,1,none⟩=some (.slice B2 j2 d2)∧w'.cell? ⟨w2.heap.size,0,none⟩=some (.bool m3)∧w'.cell? ⟨w2.heap.size,1,none⟩=some (.slice B3 j3 d3)∧w'.cell? ⟨w2.heap.size+1,0,none⟩=some (.bool m4)∧w'.cell? ⟨w2.heap.size+1,1,none⟩=some (.slice B4 j4 d4))∧Kp Wb w':=fun w' hk=>⟨⟨(hk.blk hC0).cell 0,(hk.blk hC0).cell 1,(hk.blk hC1).cell 0,(hk.blk hC1).cell 1,(hk.blk hD0).cell 0,(hk.blk hD0).cell 1,(hk.blk hD1).cell 0,(hk.blk hD1).cell 1⟩,hk⟩;have HS2:=Hj hS;clear hS
  go_region_held3 (fun w'=>(w'.cell? ⟨w1.heap.size,0,none⟩=some (.bool m1)∧w'.cell? ⟨w1.heap.size,1,none⟩=some (.slice B1 j1 d1)∧w'.cell? ⟨w1.heap.size+1,0,none⟩=some (.bool m2)∧w'.cell? ⟨w1.heap.size+1,1,none⟩=some (.slice B2 j2 d2)∧w'.cell? ⟨w2.heap.size,0,none⟩=some (.bool m3)∧w'.cell? ⟨w2.heap.size,1,none⟩=some (.slice B3 j3 d3)∧w'.cell? ⟨w2.heap.size+1,0,none⟩=some (.bool m4)∧w'.cell? ⟨w2.heap.size+1,1,none⟩=some (.slice B4 j4 d4))∧Kp Wb w')
   (with_reducible first|(refine HS2.out _ ?_;assumption)|(refine HS2.out _ (Kp.drew ?_);assumption)|(refine' HS2.out _ (Kp.drew (And.right ?_));rotate_left;assumption))
   (first
    | (go_at_call_of 97 (Value.agg #[.bool m1,.slice B1 j1 d1]);have hk:=And.right ‹_∧Kp Wb _›;refine (L1.out _ hk).mono ?_;rintro e v3 ⟨X1,u1,y3,rfl,hk1,hX1,hF1,hb1⟩;have hr3:=hk.trans hb1;clear hb1)
    | (go_at_call_of 97 (Value.agg #[.bool m3,.slice B3 j3 d3]);have hk:=And.right ‹_∧Kp Wb _›;refine (L2.out _ hk).mono ?_;rintro e v4 ⟨X2,u2,y4,rfl,hk2,hX2,hF2,hb2⟩;have hr4:=hk.trans hb2;have hX1:=hX1.below hb2;clear hb2)
    | (go_at_call 96;have hk:=And.right ‹_∧Kp Wb _›;refine (HXX.out _ X1 X2 u1 u2 y3 y4 hk1 hk2 hX1 hX2 (by have:=LN1.out;rw [← hX1.1];omega) (by have:=LN2.out;rw [← hX2.1];omega)).mono ?_;rintro e v5 ⟨rfl,hb5⟩;have hr5:=hk.trans hb5;clear hb5))
  have hB5:Below w.heap.size w v5:=hBW.trans (Below.mono hr5 hBW.size);go_wp2;go_ret;rw [HY1.out,HY2.out];exact ⟨rfl,hB5⟩
theorem qmin_any (M Nn Nd:Nat) (HO:WOK M) (hnm:Nn≤M) (hdm:Nd≤M) (an an' bn bn':Bool) (aA aA' bA bA':Option Addr) (ak ac ak' ac' bk bc bk' bc':Nat) (qa qb:Rat) (w:World)
  (ha:QAt Nn Nd w an aA ak ac an' aA' ak' ac' qa) (hb:QAt Nn Nd w bn bA bk bc bn' bA' bk' bc' qb) :
  Calls Tryz.prog 85 #[.agg #[.bool an,.slice aA ak ac,.bool an',.slice aA' ak' ac'],.agg #[.bool bn,.slice bA bk bc,.bool bn',.slice bA' bk' bc']] w (RetQ w (if qb<qa then qb else qa)):=by
 have T:=fun W (hW:Below w.heap.size w W)=>qcmp_any bn bn' an an' bA bA' aA aA' bk bc bk' bc' ak ac ak' ac' qb qa W (hb.below hW) (ha.below hW);have C1:=fun W (hW:Below w.heap.size w W)=>qcanon_any M Nn Nd HO hnm hdm an an' aA aA' ak ac ak' ac' qa W (ha.below hW);have C2:=fun W (hW:Below w.heap.size w W)=>qcanon_any M Nn Nd HO hnm hdm bn bn' bA bA' bk bc bk' bc' qb W (hb.below hW);have hc:(qb<qa∧cmpQ qb qa<0)∨(¬ qb<qa∧0≤cmpQ qb qa):=by
  unfold cmpQ;by_cases h:qb<qa
  ·left;rw [if_pos h];exact ⟨h,by omega⟩
  ·right;rw [if_neg h];exact ⟨h,by split<;>omega⟩
 generalize cmpQ qb qa=x at *;rcases hc with ⟨h1,h2⟩|⟨h1,h2⟩
 ·rw [if_pos h1];have T:=Hj T;have C2:=Hj C2;clear h1 C1;go_enter Tryz.func85,Tryz.ntmps85
  go_wp2_with fail
  obtain ⟨hB0,hB1,hB2,hBW,hsz⟩:=pre3 w 42 #[.bool an,.slice aA ak ac,.bool an',.slice aA' ak' ac'] 42 #[.bool bn,.slice bA bk bc,.bool bn',.slice bA' bk' bc'] 42 #[.bool false,.slice none 0 0,.bool false,.slice none 0 0];generalize ((w.alloc (.cells #[.bool an,.slice aA ak ac,.bool an',.slice aA' ak' ac'] 42)).alloc (.cells #[.bool bn,.slice bA bk bc,.bool bn',.slice bA' bk' bc'] 42)).alloc (.cells #[.bool false,.slice none 0 0,.bool false,.slice none 0 0] 42)=W at *;have HSZ:=Hj hsz;clear hsz;refine (T.out W hBW).mono ?_;rintro e w1 ⟨rfl,hb1⟩;have hB0:=hB0.below hb1 hB0.lt;have hB1:=hB1.below hb1 hB1.lt;have hB2:=hB2.below hb1 hB2.lt;have hb1:Below w.heap.size w w1:=hBW.trans (hb1.mono hBW.size);have hz1:w.heap.size+1+1+1≤w1.heap.size:=hB2.lt;obtain ⟨c0,c1,c2,c5,-,-,-,-⟩:=hB1.four;clear hBW HSZ T
  go_wp2_with fail
  refine (C2.out w1 hb1).mono ?_;rintro e w3 ⟨A3,k3,c3,A4,k4,c4,rfl,hk3,hk4,hW3,hW4,hF3,hF4,hb3⟩;have hr3:=(RS4.start hB2).call hb3;obtain ⟨_,_,_,_,i0,i1,i2,i3,i4,i5,i6,i7⟩:=hr3.four;have hBW:=hb1;have HSZ:Hid True:=trivial;have hfin:=retQ_close hBW (by omega) (by have:=HSZ.out;omega) hr3 hk3 hk4 hW3 hW4 hF3 hF4;obtain ⟨d0,d1,d2,d3,-,-,-,-⟩:=(hr3.done (.bool (decide ((qb).num<0))) (.slice A3 k3 c3) (.bool false) (.slice A4 k4 c4)).four;have HF:=Hj hfin;clear hfin hB0 hB1 hB2 HSZ c0 c1 c2 c5;go_wp2;refine bodyPost_ret (v:=.agg #[.bool (decide ((qb).num<0)),.slice A3 k3 c3,.bool false,.slice A4 k4 c4]) ?_ rfl HF.out;simp [results,Tryz.results85,go_sem,d0,d1,d2,d3]
 ·rw [if_neg h1];have T:=Hj T;have C1:=Hj C1;clear h1 C2;go_enter Tryz.func85,Tryz.ntmps85
  go_wp2_with fail
  obtain ⟨hB0,hB1,hB2,hBW,hsz⟩:=pre3 w 42 #[.bool an,.slice aA ak ac,.bool an',.slice aA' ak' ac'] 42 #[.bool bn,.slice bA bk bc,.bool bn',.slice bA' bk' bc'] 42 #[.bool false,.slice none 0 0,.bool false,.slice none 0 0];generalize ((w.alloc (.cells #[.bool an,.slice aA ak ac,.bool an',.slice aA' ak' ac'] 42)).alloc (.cells #[.bool bn,.slice bA bk bc,.bool bn',.slice bA' bk' bc'] 42)).alloc (.cells #[.bool false,.slice none 0 0,.bool false,.slice none 0 0] 42)=W at *;have HSZ:=Hj hsz;clear hsz;refine (T.out W hBW).mono ?_;rintro e w1 ⟨rfl,hb1⟩;have hB0:=hB0.below hb1 hB0.lt;have hB1:=hB1.below hb1 hB1.lt;have hB2:=hB2.below hb1 hB2.lt;have hb1:Below w.heap.size w w1:=hBW.trans (hb1.mono hBW.size);have hz1:w.heap.size+1+1+1≤w1.heap.size:=hB2.lt;obtain ⟨c0,c1,c2,c5,-,-,-,-⟩:=hB0.four;clear hBW HSZ T
  go_wp2_with fail
  refine (C1.out w1 hb1).mono ?_;rintro e w3 ⟨A3,k3,c3,A4,k4,c4,rfl,hk3,hk4,hW3,hW4,hF3,hF4,hb3⟩;have hr3:=(RS4.start hB2).call hb3;obtain ⟨_,_,_,_,i0,i1,i2,i3,i4,i5,i6,i7⟩:=hr3.four;have hBW:=hb1;have HSZ:Hid True:=trivial;have hfin:=retQ_close hBW (by omega) (by have:=HSZ.out;omega) hr3 hk3 hk4 hW3 hW4 hF3 hF4;obtain ⟨d0,d1,d2,d3,-,-,-,-⟩:=(hr3.done (.bool (decide ((qa).num<0))) (.slice A3 k3 c3) (.bool false) (.slice A4 k4 c4)).four;have HF:=Hj hfin;clear hfin hB0 hB1 hB2 HSZ c0 c1 c2 c5;go_wp2;refine bodyPost_ret (v:=.agg #[.bool (decide ((qa).num<0)),.slice A3 k3 c3,.bool false,.slice A4 k4 c4]) ?_ rfl HF.out;simp [results,Tryz.results85,go_sem,d0,d1,d2,d3]
theorem wok_small:WOK 4611686018427387904 where
 add:=addOK_small
 sub:=subOK_small
 div:=by
  intro A A' n n' c c' x y w h h' hx hy hn hn';exact divW_small A A' n n' c c' x y w h h' (by omega) hy hn hn'
 len:=fun x hx=>Nat.le_trans (len_le_two (by omega)) (by omega)
namespace Wd
def cdig:Nat→List Nat→List Nat
 | _,[]=>[]
 | c,t :: ts=>(t+c) % 4294967296 :: cdig ((t+c) / 4294967296) ts
def cout:Nat→List Nat→Nat
 | c,[]=>c
 | c,t :: ts=>cout ((t+c) / 4294967296) ts
theorem cdig_snoc:∀ (c:Nat) (ts:List Nat) (t:Nat),cdig c (ts ++ [t])=cdig c ts ++ [(t+cout c ts) % 4294967296]
 | _,[],_=>rfl
 | c,s :: ts,t=>by rw [List.cons_append,cdig,cdig_snoc,cdig,cout,List.cons_append]
theorem cout_snoc:∀ (c:Nat) (ts:List Nat) (t:Nat),cout c (ts ++ [t])=(t+cout c ts) / 4294967296
 | _,[],_=>rfl
 | c,s :: ts,t=>by rw [List.cons_append,cout,cout_snoc,cout]
theorem cdig_len:∀ (c:Nat) (ts:List Nat),(cdig c ts).length=ts.length
 | _,[]=>rfl
 | c,t :: ts=>by rw [cdig,List.length_cons,cdig_len,List.length_cons]
theorem cdig_Ws:∀ (c:Nat) (ts:List Nat),Ws (cdig c ts)
 | _,[]=>Ws.nil
 | c,t :: ts=>by rw [cdig];exact Ws.cons (Nat.mod_lt _ (by decide)) (cdig_Ws _ _)
theorem cdig_val:∀ (c:Nat) (ts:List Nat),val (cdig c ts)+4294967296 ^ ts.length*cout c ts=c+val ts
 | c,[]=>by simp [cdig,cout,val_nil]
 | c,t :: ts=>by
  have ih:=cdig_val ((t+c) / 4294967296) ts;have hd:=Nat.div_add_mod (t+c) 4294967296;rw [cdig,cout,val_cons,val_cons,List.length_cons,Nat.pow_succ,Nat.mul_comm (4294967296 ^ ts.length) 4294967296,Nat.mul_assoc];have e:4294967296*val (cdig ((t+c) / 4294967296) ts)+4294967296*(4294967296 ^ ts.length*cout ((t+c) / 4294967296) ts)=4294967296*((t+c) / 4294967296)+4294967296*val ts:=by
   rw [← Nat.mul_add,ih,Nat.mul_add]
  omega
theorem cout_lt {K:Nat} (hK:0<K):∀ {c:Nat} {ts:List Nat},c<K→(∀ t∈ts,t≤4294967296*K-K)→cout c ts<K
 | _,[],hc,_=>hc
 | c,t :: ts,hc,h=>by
  rw [cout];refine cout_lt hK ?_ fun s hs=>h s (List.mem_cons_of_mem _ hs);have:=h t (List.mem_cons_self ..);rw [Nat.div_lt_iff_lt_mul (by decide),Nat.mul_comm];omega
theorem val_range_get:∀ (l:List Nat) (m:Nat),l.length≤m→val ((List.range m).map fun i=>l[i]?.getD 0)=val l
 | [],m,_=>by
  have e:(List.range m).map (fun i=>([]:List Nat)[i]?.getD 0)=List.replicate m 0:=by
   apply List.ext_getElem (by simp);intro i h1 h2;simp
  rw [e,val_replicate_zero,val_nil]
 | d :: l,0,h=>by simp at h
 | d :: l,m+1,h=>by
  rw [List.range_succ_eq_map,List.map_cons,List.map_map,val_cons,val_cons];have ih:=val_range_get l m (by simpa using h);have e:(List.range m).map ((fun i=>(d :: l)[i]?.getD 0) ∘ Nat.succ)=(List.range m).map fun i=>l[i]?.getD 0:=List.map_congr_left fun i _=>by simp
  rw [e,ih]
  rfl
theorem val_map_add {α:Type} (f g:α→Nat):∀ l:List α,val (l.map fun i=>f i+g i)=val (l.map f)+val (l.map g)
 | []=>rfl
 | x :: l=>by rw [List.map_cons,val_cons,val_map_add f g l,List.map_cons,val_cons,List.map_cons,val_cons,Nat.mul_add];omega
theorem val_map_mul {α:Type} (f:α→Nat) (k:Nat):∀ l:List α,val (l.map fun i=>f i*k)=val (l.map f)*k
 | []=>by simp [val_nil]
 | x :: l=>by rw [List.map_cons,val_cons,val_map_mul f k l,List.map_cons,val_cons,Nat.add_mul,Nat.mul_assoc]
def sumW (a b:List Nat) (m:Nat):List Nat:=(List.range m).map fun i=>a[i]?.getD 0+b[i]?.getD 0
theorem val_sumW (a b:List Nat):val (sumW a b (max a.length b.length))=val a+val b:=by
 unfold sumW;rw [val_map_add,val_range_get a _ (by omega),val_range_get b _ (by omega)]
def difW (a b:List Nat) (m:Nat):List Nat:=(List.range m).map fun i=>a[i]?.getD 0+(4294967295-b[i]?.getD 0)
theorem val_const (m:Nat):val ((List.range m).map fun _=>4294967295)+1=4294967296 ^ m:=by
 induction m with
 | zero=>rfl
 | succ m ih =>
  rw [List.range_succ,List.map_append,List.map_cons,List.map_nil,val_snoc,List.length_map,List.length_range,Nat.pow_succ];omega
theorem val_difW {a b:List Nat} (hb:Ws b):1+val (difW a b (max a.length b.length))+val b=val a+4294967296 ^ (max a.length b.length):=by
 generalize hm:max a.length b.length=m;have h1:=val_range_get a m (by omega);have h2:=val_range_get b m (by omega);have h3:=val_const m;have e:val (difW a b m)+val ((List.range m).map fun i=>b[i]?.getD 0)=val ((List.range m).map fun i=>a[i]?.getD 0)+val ((List.range m).map fun _=>4294967295):=by
  unfold difW;rw [← val_map_add,← val_map_add]
  congr 1
  refine List.map_congr_left fun i _=>?_;have:=hb.get i;omega
 omega
theorem dif_val {a b:List Nat} (ha:Ws a) (hb:Ws b) (h:val b≤val a):val (cdig 1 (difW a b (max a.length b.length)))=val a-val b:=by
 have h1:=cdig_val 1 (difW a b (max a.length b.length));have h2:=val_difW (a:=a) hb;have h3:=val_lt (cdig_Ws 1 (difW a b (max a.length b.length)));have h4:(difW a b (max a.length b.length)).length=max a.length b.length:=by simp [difW]
 rw [cdig_len,h4] at h3;rw [h4] at h1;have h5:val a<4294967296 ^ max a.length b.length:=Nat.lt_of_lt_of_le (val_lt ha) (Nat.pow_le_pow_right (by decide) (by omega));generalize 4294967296 ^ max a.length b.length=P at *;generalize cout 1 (difW a b (max a.length b.length))=c at *;generalize val (cdig 1 (difW a b (max a.length b.length)))=x at *;have hc:c=1:=by
  rcases Nat.lt_trichotomy c 1 with h|h|h
  ·have:c=0:=by omega
   subst this;omega
  ·exact h
  ·have:P*2≤P*c:=Nat.mul_le_mul_left P (by omega);omega
 subst hc;omega
theorem add_val (a b:List Nat):val (cdig 0 (sumW a b (max a.length b.length) ++ [0]))=val a+val b∨4294967296 ^ (max a.length b.length+1)≤val a+val b:=by
 have h1:=cdig_val 0 (sumW a b (max a.length b.length) ++ [0]);rw [val_snoc_zero,val_sumW] at h1;have h4:(sumW a b (max a.length b.length) ++ [0]).length=max a.length b.length+1:=by simp [sumW]
 rw [h4] at h1;generalize cout 0 (sumW a b (max a.length b.length) ++ [0])=c at *;cases c with
 | zero=>left;omega
 | succ c =>
  right;rw [Nat.mul_add] at h1;omega
theorem add_val' {a b:List Nat} (ha:Ws a) (hb:Ws b):val (cdig 0 (sumW a b (max a.length b.length) ++ [0]))=val a+val b:=by
 rcases add_val a b with h|h
 ·exact h
 ·exfalso;have h1:val a<4294967296 ^ max a.length b.length:=Nat.lt_of_lt_of_le (val_lt ha) (Nat.pow_le_pow_right (by decide) (by omega));have h2:val b<4294967296 ^ max a.length b.length:=Nat.lt_of_lt_of_le (val_lt hb) (Nat.pow_le_pow_right (by decide) (by omega));rw [Nat.pow_succ] at h;omega
theorem est_first {f s P vl t u ul U V:Nat} (hV:V=(f*4294967296+s)*P+vl) (hU:U=(t*4294967296+u)*P+ul) (hul:ul<P) (hvl:vl<P) (hu:u<4294967296) (hs:s<4294967296) (hf:4294967296≤2*f) (hlt:U<4294967296*V) :
  U / V≤t / f∧t / f≤4294967297:=by
 have hP:0<P:=by omega
 constructor
 ·rw [Nat.le_div_iff_mul_le (by omega)];have h1:=Nat.div_mul_le_self U V;generalize U / V=q at *;have h2:q*(f*4294967296*P)≤q*V:=Nat.mul_le_mul_left q (by rw [hV,Nat.add_mul];omega);have h3:U<(t+1)*4294967296*P:=by
   have:(t*4294967296+u)*P+P≤(t+1)*4294967296*P:=by
    rw [← Nat.succ_mul];exact Nat.mul_le_mul_right P (by omega)
   omega
  have h4:q*f*(4294967296*P)<(t+1)*(4294967296*P):=by
   rw [Nat.mul_assoc q f,← Nat.mul_assoc f 4294967296 P,← Nat.mul_assoc (t+1) 4294967296 P];omega
  have:=Nat.lt_of_mul_lt_mul_right h4;omega
 ·have h3:V<(f+1)*4294967296*P:=by
   have:(f*4294967296+s)*P+P≤(f+1)*4294967296*P:=by
    rw [← Nat.succ_mul];exact Nat.mul_le_mul_right P (by omega)
   omega
  have h4:t*4294967296*P≤U:=by rw [hU,Nat.add_mul];omega
  have h5:t*(4294967296*P)<4294967296*(f+1)*(4294967296*P):=by
   rw [← Nat.mul_assoc t,Nat.mul_assoc 4294967296 (f+1),← Nat.mul_assoc (f+1)];omega
  have h6:=Nat.lt_of_mul_lt_mul_right h5;have:t / f<4294967298:=by
   rw [Nat.div_lt_iff_lt_mul (by omega)];omega
  omega
theorem est_over {f s P vl t u ul U V g:Nat} (hV:V=(f*4294967296+s)*P+vl) (hU:U=(t*4294967296+u)*P+ul) (hul:ul<P) (hV0:0<V) (hg:t*4294967296+u<g*(f*4294967296+s)):U / V<g:=by
 rw [Nat.div_lt_iff_lt_mul hV0];have h1:(t*4294967296+u+1)*P≤g*(f*4294967296+s)*P:=Nat.mul_le_mul_right P hg;have h2:g*(f*4294967296+s)*P≤g*V:=by
  have h0:(f*4294967296+s)*P≤V:=by rw [hV];exact Nat.le_add_right _ _
  rw [Nat.mul_assoc];exact Nat.mul_le_mul_left g h0
 rw [Nat.add_mul,Nat.one_mul] at h1;omega
theorem est_done {f s P vl t u ul U V g:Nat} (hV:V=(f*4294967296+s)*P+vl) (hU:U=(t*4294967296+u)*P+ul) (hvl:vl<P) (hf:0<f) (hg:g*(f*4294967296+s)≤t*4294967296+u) (hgB:g≤4294967296):g≤U / V+1:=by
 have hP:0<P:=by omega
 have hVB:4294967296*P≤V:=by
  have:1*4294967296*P≤f*4294967296*P:=Nat.mul_le_mul_right P (Nat.mul_le_mul_right _ hf);rw [hV,Nat.add_mul];omega
 have hV0:0<V:=Nat.lt_of_lt_of_le (Nat.mul_pos (by decide) hP) hVB;have h1:g*(f*4294967296+s)*P≤(t*4294967296+u)*P:=Nat.mul_le_mul_right P hg;have h2:g*vl≤4294967296*P:=Nat.mul_le_mul hgB (by omega);have h3:g*V≤U+V:=by
  rw [show g*V=g*(f*4294967296+s)*P+g*vl by rw [hV,Nat.mul_add,Nat.mul_assoc]];omega
 cases g with
 | zero=>exact Nat.zero_le _
 | succ g =>
  have:g*V≤U:=by rw [Nat.succ_mul] at h3;omega
  have:=(Nat.le_div_iff_mul_le hV0).2 this;omega
end Wd
end Go.Proofs.YtjajigkacccdgaaGreat
namespace Go.Proofs.YtjajigkacccdgaaGreat
open Go.RowKit Go.Shelf
open Wd
attribute [local go_sem] Oper.semAt_some
abbrev PW:={ p:Nat×Nat // p.1<4294967296∧p.2<4294967296 }
def PW.enc (x:PW):Array Value:=#[.int .u64 (x.1.1:Int),.int .u64 (x.1.2:Int)]
def pw (l l':List Nat) (h:Ws l) (h':Ws l') (i:Nat):PW:=⟨(l[i]?.getD 0,l'[i]?.getD 0),h.get i,h'.get i⟩
def pws (l l':List Nat) (h:Ws l) (h':Ws l') (k:Nat):List PW:=(List.range k).map (pw l l' h h')
theorem pws_succ (l l':List Nat) (h:Ws l) (h':Ws l') (k:Nat):pws l l' h h' (k+1)=pws l l' h h' k ++ [pw l l' h h' k]:=by simp [pws,List.range_succ]
theorem pws_length (l l':List Nat) (h:Ws l) (h':Ws l') (k:Nat):(pws l l' h h' k).length=k:=by simp [pws]
def WatB (n₀:Nat) (w:World) (A:Option Addr) (n:Nat) (l:List Nat):Prop :=
 l.length=n∧(n≠0→∃ b o,A=some ⟨b,o,none⟩∧b<n₀∧∀ j,j<n→w.cell? ⟨b,o+j,none⟩=some (.int .u32 ((l[j]?.getD 0:Nat):Int)))
theorem WatB.below {n₀:Nat} {w w':World} {A:Option Addr} {n:Nat} {l:List Nat} (h:WatB n₀ w A n l) (hb:Below n₀ w w'):WatB n₀ w' A n l:=by
 refine ⟨h.1,fun hn=>?_⟩;obtain ⟨b,o,rfl,hlt,hc⟩:=h.2 hn;exact ⟨b,o,rfl,hlt,fun j hj=>(hb.cell hlt).trans (hc j hj)⟩
theorem Wat.b {w:World} {A:Option Addr} {n:Nat} {l:List Nat} (h:Wat w A n l):WatB w.heap.size w A n l:=⟨h.1,h.2.2⟩
def KpB (n₀ Ba Bb:Nat) (W W':World):Prop:=Below n₀ W W'∧W'.heap[Ba]?=W.heap[Ba]?∧W'.heap[Bb]?=W.heap[Bb]?
theorem KpB.trans {n₀ Ba Bb:Nat} {A B C:World} (h:KpB n₀ Ba Bb A B) (k:KpB n₀ Ba Bb B C):KpB n₀ Ba Bb A C:=⟨h.1.trans k.1,k.2.1.trans h.2.1,k.2.2.trans h.2.2⟩
theorem KpB.refl (n₀ Ba Bb:Nat) (A:World):KpB n₀ Ba Bb A A:=⟨Below.refl _ _,rfl,rfl⟩
theorem KpB.put {n₀ Ba Bb:Nat} {w:World} (hn:n₀≤w.heap.size) (ha:Ba<w.heap.size) (hb:Bb<w.heap.size) (W:World) (l:Nat) (o o':Obj) (hl:w.heap.size≤l) (h:W.heap[l]?=some o) (hc:o.isCells=false) (hw:o.isWalk=false):KpB n₀ Ba Bb W (W.putObj l o'):=by
 have hbl:Below w.heap.size W (W.putObj l o'):=belowK_b (w:=w) (Nat.le_refl _) W l o o' hl h hc hw;exact ⟨hbl.mono hn,hbl.block Ba ha,hbl.block Bb hb⟩
theorem pairs1_in (n:Nat) (hn:1≤n) (r Ba Bb n₀:Nat) (A A':Option Addr) (la lb ca cb:Nat) (l l':List Nat) (h:Ws l) (h':Ws l') (J Jx:List PW→World→Prop) (hla:la≤10000000000) (hlb:lb≤10000000000)
  (hY:∀ pre x W,J pre W→pre.length<max la lb→YieldAt Fence.wide (n-1) Tryz.prog r x.enc W fun e W' =>
   (e=.returned (.bool true)∧J (pre ++ [x]) W'∧KpB n₀ Ba Bb W W')∨(e=.returned (.bool false)∧Jx (pre ++ [x]) W'))
  (W:World) (hBa:W.cell? ⟨Ba,0,none⟩=some (.slice A la ca)) (hBb:W.cell? ⟨Bb,0,none⟩=some (.slice A' lb cb)) (ha:WatB n₀ W A la l) (hb:WatB n₀ W A' lb l') (h0:J [] W) :
  CallsIn Fence.wide n Tryz.prog 226 #[.func (.yield r) #[] #[],.pointer (some ⟨Ba,0,none⟩),.pointer (some ⟨Bb,0,none⟩)] W fun e W'=>(∃ v,e=.returned v) ∧
   ((∃ ys,ys=pws l l' h h' (max la lb)∧J ys W')∨(∃ pre,(∃ k,k≤max la lb∧pre=pws l l' h h' k)∧Jx pre W')):=by
 by_cases hcmp:la<lb
 ·have emax:max la lb=lb:=by omega
  rw [emax] at hY ⊢;have EM:=Hj emax;clear emax;refine callsIn_of_wp Tryz.func226 rfl trivial ?_ rfl;simp only [Tryz.ntmps226,List.size_toArray,List.length_cons,List.length_nil,Nat.reduceAdd,Nat.reduceSub,Array.replicate_succ,Array.replicate_zero,List.push_toArray,List.append_toArray,List.nil_append,List.cons_append]
  gi_wp2
  gi_loopw [12] (fun i wr=>∃ k:Nat,k≤lb∧i=.int .i64 k∧J (pws l l' h h' k) wr∧Hid (KpB n₀ Ba Bb W wr)) (fun i _=>lb-(intOf i).toNat)
  case atStart=>exact ⟨0,Nat.zero_le _,rfl,h0,KpB.refl _ _ _ _⟩
  case round =>
   obtain ⟨k,hk,rfl,hJs,hnx⟩:=hrel;have hBa':=(World.cell?_of_block (a:=⟨Ba,0,none⟩) hnx.out.2.1).trans hBa;have hBb':=(World.cell?_of_block (a:=⟨Bb,0,none⟩) hnx.out.2.2).trans hBb;have HHA:=Hj (ha.below hnx.out.1);have HHB:=Hj (hb.below hnx.out.1);by_cases hlt:k<lb
   ·obtain ⟨fn,tmps,assign,body,hy,hR⟩:=hY _ (pw l l' h h' k) wr hJs (by rw [pws_length];exact hlt);have HR:=Hj hR;clear hR;have ea:la≤k→l[k]?.getD 0=0:=fun hle=>by rw [List.getElem?_eq_none (by have:=HHA.out.1;omega)];rfl
    have eb:lb≤k→l'[k]?.getD 0=0:=fun hle=>by rw [List.getElem?_eq_none (by have:=HHB.out.1;omega)];rfl
    have wa:=h.get k;have wb:=h'.get k;simp only [pw,PW.enc] at hy;have i1:(0:Int)≤(k:Int):=by omega
    by_cases hka:k<la
    ·obtain ⟨b1,o1,rfl,hb1,hc1⟩:=HHA.out.2 (by omega);have hca:=hc1 k hka;generalize l[k]?.getD 0=x at *;have ka:(k:Int)<(la:Int):=by omega
     by_cases hkb:k<lb
     ·obtain ⟨b2,o2,rfl,hb2,hc2⟩:=HHB.out.2 (by omega);have hcb:=hc2 k hkb;generalize l'[k]?.getD 0=y at *;have kb:(k:Int)<(lb:Int):=by omega
      clear hc1 hc2 ea eb
      gi_wp2
      refine HR.out.mono ?_;rintro e W3 (⟨rfl,hJ3,hk3⟩|⟨rfl,hJx3⟩)
      ·have HN:=Hj (hnx.out.trans hk3);clear hk3
       gi_wp2
       go_roundw
       case rel=>exact ⟨k+1,by omega,by go_num,by rw [pws_succ];exact hJ3,HN.out⟩
       case measure=>simp [intOf];omega
      ·gi_wp2
       refine bodyPost_ret (results_none rfl _ _ _) rfl ?_;exact ⟨⟨_,rfl⟩,.inr ⟨_,⟨k+1,by omega,(pws_succ _ _ _ _ _).symm⟩,hJx3⟩⟩
     ·exact absurd hlt hkb
    ·rw [ea (by omega),show ((0:Nat):Int)=0 from rfl] at hy;have ka:¬ ((k:Int)<(la:Int)):=by omega
     have hkb:k<lb:=by omega
     obtain ⟨b2,o2,rfl,hb2,hc2⟩:=HHB.out.2 (by omega);have hcb:=hc2 k hkb;generalize l'[k]?.getD 0=y at *;have kb:(k:Int)<(lb:Int):=by omega
     clear hc2 ea eb
     gi_wp2
     refine HR.out.mono ?_;rintro e W3 (⟨rfl,hJ3,hk3⟩|⟨rfl,hJx3⟩)
     ·have HN:=Hj (hnx.out.trans hk3);clear hk3
      gi_wp2
      go_roundw
      case rel=>exact ⟨k+1,by omega,by go_num,by rw [pws_succ];exact hJ3,HN.out⟩
      case measure=>simp [intOf];omega
     ·gi_wp2
      refine bodyPost_ret (results_none rfl _ _ _) rfl ?_;exact ⟨⟨_,rfl⟩,.inr ⟨_,⟨k+1,by omega,(pws_succ _ _ _ _ _).symm⟩,hJx3⟩⟩
   ·obtain rfl:k=lb:=by omega
    gi_wp2
    go_end0
    exact ⟨⟨_,rfl⟩,.inl ⟨_,rfl,hJs⟩⟩
 ·have emax:max la lb=la:=by omega
  rw [emax] at hY ⊢;have EM:=Hj emax;clear emax;refine callsIn_of_wp Tryz.func226 rfl trivial ?_ rfl;simp only [Tryz.ntmps226,List.size_toArray,List.length_cons,List.length_nil,Nat.reduceAdd,Nat.reduceSub,Array.replicate_succ,Array.replicate_zero,List.push_toArray,List.append_toArray,List.nil_append,List.cons_append]
  gi_wp2
  gi_loopw [12] (fun i wr=>∃ k:Nat,k≤la∧i=.int .i64 k∧J (pws l l' h h' k) wr∧Hid (KpB n₀ Ba Bb W wr)) (fun i _=>la-(intOf i).toNat)
  case atStart=>exact ⟨0,Nat.zero_le _,rfl,h0,KpB.refl _ _ _ _⟩
  case round =>
   obtain ⟨k,hk,rfl,hJs,hnx⟩:=hrel;have hBa':=(World.cell?_of_block (a:=⟨Ba,0,none⟩) hnx.out.2.1).trans hBa;have hBb':=(World.cell?_of_block (a:=⟨Bb,0,none⟩) hnx.out.2.2).trans hBb;have HHA:=Hj (ha.below hnx.out.1);have HHB:=Hj (hb.below hnx.out.1);by_cases hlt:k<la
   ·obtain ⟨fn,tmps,assign,body,hy,hR⟩:=hY _ (pw l l' h h' k) wr hJs (by rw [pws_length];exact hlt);have HR:=Hj hR;clear hR;have ea:la≤k→l[k]?.getD 0=0:=fun hle=>by rw [List.getElem?_eq_none (by have:=HHA.out.1;omega)];rfl
    have eb:lb≤k→l'[k]?.getD 0=0:=fun hle=>by rw [List.getElem?_eq_none (by have:=HHB.out.1;omega)];rfl
    have wa:=h.get k;have wb:=h'.get k;simp only [pw,PW.enc] at hy;have i1:(0:Int)≤(k:Int):=by omega
    by_cases hka:k<la
    ·obtain ⟨b1,o1,rfl,hb1,hc1⟩:=HHA.out.2 (by omega);have hca:=hc1 k hka;generalize l[k]?.getD 0=x at *;have ka:(k:Int)<(la:Int):=by omega
     by_cases hkb:k<lb
     ·obtain ⟨b2,o2,rfl,hb2,hc2⟩:=HHB.out.2 (by omega);have hcb:=hc2 k hkb;generalize l'[k]?.getD 0=y at *;have kb:(k:Int)<(lb:Int):=by omega
      clear hc1 hc2 ea eb
      gi_wp2
      refine HR.out.mono ?_;rintro e W3 (⟨rfl,hJ3,hk3⟩|⟨rfl,hJx3⟩)
      ·have HN:=Hj (hnx.out.trans hk3);clear hk3
       gi_wp2
       go_roundw
       case rel=>exact ⟨k+1,by omega,by go_num,by rw [pws_succ];exact hJ3,HN.out⟩
       case measure=>simp [intOf];omega
      ·gi_wp2
       refine bodyPost_ret (results_none rfl _ _ _) rfl ?_;exact ⟨⟨_,rfl⟩,.inr ⟨_,⟨k+1,by omega,(pws_succ _ _ _ _ _).symm⟩,hJx3⟩⟩
     ·rw [eb (by omega),show ((0:Nat):Int)=0 from rfl] at hy;have kb:¬ ((k:Int)<(lb:Int)):=by omega
      clear hc1 ea eb
      gi_wp2
      refine HR.out.mono ?_;rintro e W3 (⟨rfl,hJ3,hk3⟩|⟨rfl,hJx3⟩)
      ·have HN:=Hj (hnx.out.trans hk3);clear hk3
       gi_wp2
       go_roundw
       case rel=>exact ⟨k+1,by omega,by go_num,by rw [pws_succ];exact hJ3,HN.out⟩
       case measure=>simp [intOf];omega
      ·gi_wp2
       refine bodyPost_ret (results_none rfl _ _ _) rfl ?_;exact ⟨⟨_,rfl⟩,.inr ⟨_,⟨k+1,by omega,(pws_succ _ _ _ _ _).symm⟩,hJx3⟩⟩
    ·exact absurd hlt hka
   ·obtain rfl:k=la:=by omega
    gi_wp2
    go_end0
    exact ⟨⟨_,rfl⟩,.inl ⟨_,rfl,hJs⟩⟩
end Go.Proofs.YtjajigkacccdgaaGreat
namespace Go.Proofs.YtjajigkacccdgaaGreat
open Go
theorem rowsIn_of {r n:Nat} {P:Program} {row:String} {args:Array Value} {w:World} {R:Value→World→Prop} (h:Rows P row args w R):RowsIn (Fence.wide.inRound r) n P row args w R :=
 fun c cs _=>let ⟨v,w',q,s⟩:=h c cs;⟨v,w',q,stepsIn_wide.2 s⟩
theorem wpOpIn_of_wpOp {r n:Nat} {P:Program} {ops:Array Oper} {Q:Exit→Act→World→Prop} {i:Nat} {K:Act→World→Prop} {a:Act} {w:World} (hnd:∀ (j:Nat) (o:Oper),ops[j]?=some o→∀ c,o.op≠.defer c) (hQ:¬ LetsOut Q) (h:wpOp P ops Q i K a w) :
  wpOpIn (Fence.wide.inRound r) n P ops Q i K a w:=by
 unfold wpOp at h;unfold wpOpIn;cases ho:ops[i]? with
 | none=>rw [ho] at h;exact h
 | some o =>
  rw [ho] at h;simp only at h ⊢;split
  ·rename_i hw
   rw [if_pos hw] at h;rcases h with h|⟨_,hl⟩
   ·unfold Oper.wp at h;unfold Oper.wpIn;refine ⟨fun _ _=>trivial,?_⟩;rw [Fence.inRound_round,Oper.semAt_some _ _ _ (hnd i o ho)];generalize (execOp a.eval o).run P w=res at *;cases res with
    | ok x w' =>
     cases x<;>simp only [Oper.upon,Oper.uponIn] at h ⊢<;>first
      | exact h
      | exact ⟨fun hh=>by simp [Fence.inRound,Fence.wide] at hh,CallsIn.inRound r (callsIn_wide.2 h)⟩
      | exact ⟨fun hh=>by simp [Fence.inRound,Fence.wide] at hh,rowsIn_of h⟩
      | exact h.elim
    | halt x w'=>cases x<;>simp only [Oper.upon,Oper.uponIn] at h ⊢<;>exact h
   ·exact absurd hl hQ
  ·rename_i hw
   rw [if_neg hw] at h;exact ⟨fun _ _=>trivial,h⟩
theorem wpAnyIn_of_wpAny {r n:Nat} {P:Program} {md:Region.Mode} {ops:Array Oper} {Q:Exit→Act→World→Prop} (hnd:∀ (j:Nat) (o:Oper),ops[j]?=some o→∀ c,o.op≠.defer c) (hQ:¬ LetsOut Q):∀ (fuel:Nat) (listed:Array Bool) (a:Act) (w:World),
  wpAny P md ops Q fuel listed a w→wpAnyIn (Fence.wide.inRound r) n P md ops Q fuel listed a w
 | 0,_,_,_,h=>h
 | fuel+1,_,_,_,h=>⟨h.1,fun i hi=>wpOpIn_mono (fun a' w' h'=>wpAnyIn_of_wpAny hnd hQ fuel _ a' w' h') (wpOpIn_of_wpOp hnd hQ (h.2 i hi))⟩
def OnlyN (Q:Exit→Act→World→Prop):Exit→Act→World→Prop
 | .normal,a,w=>Q .normal a w
 | _,_,_=>False
theorem OnlyN.imp {Q:Exit→Act→World→Prop}:∀ (e:Exit) (a:Act) (w:World),OnlyN Q e a w→Q e a w:=fun e a w h=>by
 cases e<;>first|exact h|exact (h:False).elim
theorem OnlyN.noOut {Q:Exit→Act→World→Prop}:¬ LetsOut (OnlyN Q):=fun ⟨_,_,h⟩=>h
def noDefer (ops:Array Oper):Bool:=ops.all fun o=>match o.op with | .defer _=>false|_=>true
theorem noDefer_spec {ops:Array Oper} (h:noDefer ops=true):∀ (j:Nat) (o:Oper),ops[j]?=some o→∀ c,o.op≠.defer c:=by
 intro j o ho c hc;obtain ⟨hj,rfl⟩:=Array.getElem?_eq_some_iff.1 ho;have:=(Array.all_eq_true.1 h) j hj;rw [hc] at this;simp at this
theorem wpIn_round_held {r n:Nat} {P:Program} {ops:Array Oper} {Q:Exit→Act→World→Prop} {S:World→Prop} {id:Nat} {a:Act} {w:World} (hm:P.follows .mixedOrders=true) (hnd:noDefer ops=true) (hS:S w.drew)
  (h:S w.drew→wpAnyH P .any ops (OnlyN Q) S ops.size (Array.replicate ops.size false) a w.drew):(Code.region id ops true).wpIn (Fence.wide.inRound r) n P Q a w :=
 Code.wpIn_mono OnlyN.imp (wpIn_region_any hm (wpAnyIn_of_wpAny (noDefer_spec hnd) OnlyN.noOut _ _ _ _ (wpAny_of_held _ _ _ _ (h hS))))
theorem rowsIn_of' {n:Nat} {P:Program} {row:String} {args:Array Value} {w:World} {R:Value→World→Prop} (h:Rows P row args w R):RowsIn Fence.wide n P row args w R :=
 fun c cs _=>let ⟨v,w',q,s⟩:=h c cs;⟨v,w',q,stepsIn_wide.2 s⟩
theorem wpOpIn_of_wpOp' {n:Nat} {P:Program} {ops:Array Oper} {Q:Exit→Act→World→Prop} {i:Nat} {K:Act→World→Prop} {a:Act} {w:World} (hQ:¬ LetsOut Q) (h:wpOp P ops Q i K a w) :
  wpOpIn Fence.wide n P ops Q i K a w:=by
 unfold wpOp at h;unfold wpOpIn;cases ho:ops[i]? with
 | none=>rw [ho] at h;exact h
 | some o =>
  rw [ho] at h;simp only at h ⊢;split
  ·rename_i hw
   rw [if_pos hw] at h;rcases h with h|⟨_,hl⟩
   ·unfold Oper.wp at h;unfold Oper.wpIn;refine ⟨fun _ _=>trivial,?_⟩;rw [show Fence.wide.round=none from rfl,Oper.semAt_none];generalize (execOp a.eval o).run P w=res at *;cases res with
    | ok x w' =>
     cases x<;>simp only [Oper.upon,Oper.uponIn] at h ⊢<;>first
      | exact h
      | exact ⟨fun hh=>by simp [Fence.wide] at hh,callsIn_wide.2 h⟩
      | exact ⟨fun hh=>by simp [Fence.wide] at hh,rowsIn_of' h⟩
      | exact h.elim
    | halt x w'=>cases x<;>simp only [Oper.upon,Oper.uponIn] at h ⊢<;>exact h
   ·exact absurd hl hQ
  ·rename_i hw
   rw [if_neg hw] at h;exact ⟨fun _ _=>trivial,h⟩
theorem wpAnyIn_of_wpAny' {n:Nat} {P:Program} {md:Region.Mode} {ops:Array Oper} {Q:Exit→Act→World→Prop} (hQ:¬ LetsOut Q):∀ (fuel:Nat) (listed:Array Bool) (a:Act) (w:World),
  wpAny P md ops Q fuel listed a w→wpAnyIn Fence.wide n P md ops Q fuel listed a w
 | 0,_,_,_,h=>h
 | fuel+1,_,_,_,h=>⟨h.1,fun i hi=>wpOpIn_mono (fun a' w' h'=>wpAnyIn_of_wpAny' hQ fuel _ a' w' h') (wpOpIn_of_wpOp' hQ (h.2 i hi))⟩
theorem wpIn_wide_held {n:Nat} {P:Program} {ops:Array Oper} {Q:Exit→Act→World→Prop} {S:World→Prop} {id:Nat} {a:Act} {w:World} (hm:P.follows .mixedOrders=true) (hS:S w.drew)
  (h:S w.drew→wpAnyH P .any ops (OnlyN Q) S ops.size (Array.replicate ops.size false) a w.drew):(Code.region id ops true).wpIn Fence.wide n P Q a w :=
 Code.wpIn_mono OnlyN.imp (wpIn_region_any hm (wpAnyIn_of_wpAny' OnlyN.noOut _ _ _ _ (wpAny_of_held _ _ _ _ (h hS))))
end Go.Proofs.YtjajigkacccdgaaGreat
