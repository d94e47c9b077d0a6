/-
Lemmas of the walk; no further conditions.
-/
import Derived.Test.YtjajigkacccdgaaGreatTfAG
import Derived.RangeFuncBox
import Derived.RangeFuncNested
import Derived.RangeFuncLeaves
import Derived.Shelf.Abstract
import Derived.OwnWalkIn
import Derived.TacticsInMore
import Derived.LoopNIn
import Derived.LoopIn
import Derived.Maps.AppendAt
import Derived.OrdersIn
import Derived.OrdersHeld
import Derived.Deep.RegionHeld3
import Derived.Laws.EntriesVeiled
import Derived.BigQuiet
import Derived.Shelf.Small.Bits
import Derived.Test.YtjajigkacccdgaaGreatProg
set_option linter.unusedVariables false
set_option linter.unusedSimpArgs false
set_option maxRecDepth 100000
set_option maxHeartbeats 16000000
namespace Go.Proofs.YtjajigkacccdgaaGreat
open Go.RowKit
open Wd
def cmpQ (a b:Rat):Int:=if a<b then -1 else if b<a then 1 else 0
theorem mk_lt (n1 n2 d1 d2:Int) (h1:0<d1) (h2:0<d2):mkRat n1 d1.natAbs<mkRat n2 d2.natAbs↔n1*d2<n2*d1:=by
 have e:=rat_sub n2 n1 d2 d1 h2 h1;have hs:=sgn_mk (n2*d1-n1*d2) (d2*d1) (Int.mul_pos h2 h1);rw [← e] at hs;have hlt:mkRat n1 d1.natAbs<mkRat n2 d2.natAbs↔0<(mkRat n2 d2.natAbs-mkRat n1 d1.natAbs).num:=by
  have h0:(0:Rat)<mkRat n2 d2.natAbs-mkRat n1 d1.natAbs↔0<(mkRat n2 d2.natAbs-mkRat n1 d1.natAbs).num:=by
   rw [Rat.lt_iff];simp
  rw [← h0];constructor<;>intro h<;>grind
 rw [hlt];unfold cmpI at hs;constructor
 ·intro h;rw [if_neg (by omega),if_pos h] at hs;split at hs
  ·omega
  ·split at hs<;>omega
 ·intro h;rw [if_neg (c:=n2*d1-n1*d2<0) (by omega),if_pos (c:=0<n2*d1-n1*d2) (by omega)] at hs;split at hs
  ·omega
  ·split at hs<;>omega
theorem cmpQ_mk (n1 n2 d1 d2:Int) (h1:0<d1) (h2:0<d2):cmpQ (mkRat n1 d1.natAbs) (mkRat n2 d2.natAbs)=cmpI (n1*d2) (n2*d1):=by
 unfold cmpQ cmpI;simp only [mk_lt _ _ _ _ h1 h2,mk_lt _ _ _ _ h2 h1]
theorem len_mul {w w':World} {m1 m2:Bool} {B1 B2:Option Addr} {j1 d1 j2 d2:Nat} {r1 r2:List Nat} {z1 z2:Int} (h1:ZIn w m1 B1 j1 d1 r1 z1) (h2:ZIn w' m2 B2 j2 d2 r2 z2):(digs (z1*z2).natAbs).length≤20000000000:=by
 have a1:=val_lt h1.1.2.1;have a2:=val_lt h2.1.2.1;rw [h1.1.1] at a1;rw [h2.1.1] at a2;have:(digs (z1*z2).natAbs).length≤j1+j2:=by
  rw [digs_len_le,Int.natAbs_mul,← h1.abs,← h2.abs,Nat.pow_add];exact Nat.mul_lt_mul'' a1 a2
 have b1:=h1.2.2.1;have b2:=h2.2.2.1;omega
theorem fsign_any (n:Int) (w:World):Calls Tryz.prog 95 #[.int .i64 n] w fun e w'=>e=.returned (.int .i64 (cmpI n 0))∧w=w':=by
 rcases Int.lt_trichotomy n 0 with h|h|h
 ·rw [cmpI_lt h];go_enter Tryz.func95,Tryz.ntmps95;go_wp2;go_ret;exact ⟨rfl,rfl⟩
 ·subst h;go_enter Tryz.func95,Tryz.ntmps95;go_wp2;go_ret;exact ⟨rfl,rfl⟩
 ·rw [cmpI_gt h];go_enter Tryz.func95,Tryz.ntmps95;go_wp2;go_ret;exact ⟨rfl,rfl⟩
theorem cmp_signs (n1 n2 d1 d2:Int) (h1:0<d1) (h2:0<d2) (h:cmpI n1 0≠cmpI n2 0∨cmpI n1 0=0):cmpI (n1*d2) (n2*d1)=cmpI (cmpI n1 0-cmpI n2 0) 0:=by
 have a1:n1<0→n1*d2<0:=fun h=>Int.mul_neg_of_neg_of_pos h h2;have a2:0<n1→0<n1*d2:=fun h=>Int.mul_pos h h2;have b1:n2<0→n2*d1<0:=fun h=>Int.mul_neg_of_neg_of_pos h h1;have b2:0<n2→0<n2*d1:=fun h=>Int.mul_pos h h1;have a3:n1=0→n1*d2=0:=fun h=>by rw [h,Int.zero_mul]
 have b3:n2=0→n2*d1=0:=fun h=>by rw [h,Int.zero_mul]
 generalize n1*d2=p at *;generalize n2*d1=r at *;rcases Int.lt_trichotomy n1 0 with g|g|g<;>rcases Int.lt_trichotomy n2 0 with k|k|k
 all_goals
  (try have:=a1 g)
  (try have:=a2 g)
  (try have:=a3 g)
  (try have:=b1 k)
  (try have:=b2 k)
  (try have:=b3 k)
  (first|rw [cmpI_lt g] at * | rw [cmpI_eq g] at * | rw [cmpI_gt g] at *)
  (first|rw [cmpI_lt k] at * | rw [cmpI_eq k] at * | rw [cmpI_gt k] at *)
  unfold cmpI
  (try (exfalso;omega))
  (try (split<;>(try split)<;>omega))
theorem qcmp_any {Nn Nd:Nat} (an an' bn bn':Bool) (aA aA' bA bA':Option Addr) (ak ac ak' ac' bk bc bk' bc':Nat) (qa qb:Rat) (w:World)
  (ha:QAt Nn Nd w an aA ak ac an' aA' ak' ac' qa) (hb:QAt Nn Nd w bn bA bk bc bn' bA' bk' bc' qb) :
  Calls Tryz.prog 43 #[.agg #[.bool an,.slice aA ak ac,.bool an',.slice aA' ak' ac'],.agg #[.bool bn,.slice bA bk bc,.bool bn',.slice bA' bk' bc']] w fun e w'=>e=.returned (.int .i64 (cmpQ qa qb))∧Below w.heap.size w w':=by
 obtain ⟨na,da,hia,hna,hda,rfl⟩:=ha;obtain ⟨nb,db,hib,hnb,hdb,rfl⟩:=hb;have hp1:=qden_pos da;have hp2:=qden_pos db;rw [cmpQ_mk _ _ _ _ hp1 hp2];have P1:=fun W hW=>parts_in (w:=W) (h:=hia.below (w':=W) hW);have P2:=fun W hW=>parts_in (w:=W) (h:=hib.below (w':=W) hW);generalize qnum na da=x1 at *;generalize qden da=x2 at *;generalize qnum nb db=x3 at *;generalize qden db=x4 at *;have hcs:=cmp_signs x1 x3 x2 x4 hp1 hp2;have HCS:=Hj hcs;have P1:=Hj P1;have P2:=Hj P2;clear hcs hna hda hnb hdb hia hib;go_enter Tryz.func43,Tryz.ntmps43
 go_wp2_with fail
 obtain ⟨hB0,hB1,hBW,hsz⟩:=pre2 w 42 #[.bool an,.slice aA ak ac,.bool an',.slice aA' ak' ac'] 42 #[.bool bn,.slice bA bk bc,.bool bn',.slice bA' bk' bc'];generalize (w.alloc (.cells #[.bool an,.slice aA ak ac,.bool an',.slice aA' ak' ac'] 42)).alloc (.cells #[.bool bn,.slice bA bk bc,.bool bn',.slice bA' bk' bc'] 42)=W at *;have HSZ:=Hj hsz;clear hsz;refine (P1.out W hBW).mono ?_;rintro e w1 ⟨m1,B1,j1,d1,r1,m2,B2,j2,d2,r2,rfl,hj1,hj2,hl1,hl2,hW1,hW2,hs1,hs2,hb1⟩;have hB0:=hB0.below hb1 hB0.lt;have hB1:=hB1.below hb1 hB1.lt;have hBW:Below w.heap.size w w1:=hBW.trans (hb1.mono hBW.size);have Z1:ZIn w1 m1 B1 j1 d1 r1 x1:=⟨hW1,hj1,hl1,hs1⟩;have Z2:ZIn w1 m2 B2 j2 d2 r2 x2:=⟨hW2,hj2,hl2,hs2⟩;have hB1:=(hB1.alloc (.cells #[.bool m1,.slice B1 j1 d1] 40)).alloc (.cells #[.bool m2,.slice B2 j2 d2] 40);obtain ⟨c0,c1,c2,c3,-,-,-,-⟩:=hB1.four;clear hW1 hW2 hs1 hs2 hb1 hB0 HSZ P1
 go_wp2_with fail
 clear c0 c1 c2 c3;have hC0:=(Blk.new w1 40 #[.bool m1,.slice B1 j1 d1]).alloc (.cells #[.bool m2,.slice B2 j2 d2] 40);have hC1:=Blk.new1 w1 (.cells #[.bool m1,.slice B1 j1 d1] 40) 40 #[.bool m2,.slice B2 j2 d2];have hBa:Below w1.heap.size w1 ((w1.alloc (.cells #[.bool m1,.slice B1 j1 d1] 40)).alloc (.cells #[.bool m2,.slice B2 j2 d2] 40)):=((Below.refl _ _).alloc (Nat.le_refl _) _).alloc (by simp only [World.size_alloc];omega) _;have hsz:((w1.alloc (.cells #[.bool m1,.slice B1 j1 d1] 40)).alloc (.cells #[.bool m2,.slice B2 j2 d2] 40)).heap.size=w1.heap.size+1+1:=by simp
 generalize (w1.alloc (.cells #[.bool m1,.slice B1 j1 d1] 40)).alloc (.cells #[.bool m2,.slice B2 j2 d2] 40)=Wa at *;have HSA:=Hj hsz;clear hsz;have hBa':Below w.heap.size w Wa:=hBW.trans (hBa.mono hBW.size);have Z1:=Z1.below hBa;have Z2:=Z2.below hBa;refine (P2.out Wa hBa').mono ?_;rintro e w2 ⟨m3,B3,j3,d3,r3,m4,B4,j4,d4,r4,rfl,hj3,hj4,hl3,hl4,hW3,hW4,hs3,hs4,hb2⟩;have hC0:=hC0.below hb2 hC0.lt;have hC1:=hC1.below hb2 hC1.lt;have Z1:=Z1.below hb2;have Z2:=Z2.below hb2;have hBb:Below w.heap.size w w2:=hBa'.trans (hb2.mono hBa'.size);have Z3:ZIn w2 m3 B3 j3 d3 r3 x3:=⟨hW3,hj3,hl3,hs3⟩;have Z4:ZIn w2 m4 B4 j4 d4 r4 x4:=⟨hW4,hj4,hl4,hs4⟩;clear hW3 hW4 hs3 hs4 hb2 hB1 P2 hBa hBa' hBW HSA
 go_wp2_with fail
 have hC0:=(hC0.alloc (.cells #[.bool m3,.slice B3 j3 d3] 40)).alloc (.cells #[.bool m4,.slice B4 j4 d4] 40);have hC1:=(hC1.alloc (.cells #[.bool m3,.slice B3 j3 d3] 40)).alloc (.cells #[.bool m4,.slice B4 j4 d4] 40);have hD0:=(Blk.new w2 40 #[.bool m3,.slice B3 j3 d3]).alloc (.cells #[.bool m4,.slice B4 j4 d4] 40);have hD1:=Blk.new1 w2 (.cells #[.bool m3,.slice B3 j3 d3] 40) 40 #[.bool m4,.slice B4 j4 d4];have hBc:Below w2.heap.size w2 ((w2.alloc (.cells #[.bool m3,.slice B3 j3 d3] 40)).alloc (.cells #[.bool m4,.slice B4 j4 d4] 40)):=((Below.refl _ _).alloc (Nat.le_refl _) _).alloc (by simp only [World.size_alloc];omega) _;have hsz:((w2.alloc (.cells #[.bool m3,.slice B3 j3 d3] 40)).alloc (.cells #[.bool m4,.slice B4 j4 d4] 40)).heap.size=w2.heap.size+1+1:=by simp
 generalize (w2.alloc (.cells #[.bool m3,.slice B3 j3 d3] 40)).alloc (.cells #[.bool m4,.slice B4 j4 d4] 40)=Wb at *;have HSB:=Hj hsz;clear hsz;have hBW:Below w.heap.size w Wb:=hBb.trans (hBc.mono hBb.size);have hZ:∀ w',Kp Wb w'→ZIn w' m1 B1 j1 d1 r1 x1∧ZIn w' m2 B2 j2 d2 r2 x2∧ZIn w' m3 B3 j3 d3 r3 x3∧ZIn w' m4 B4 j4 d4 r4 x4:=fun w' hb=>⟨(Z1.below hBc).below hb,(Z2.below hBc).below hb,(Z3.below hBc).below hb,(Z4.below hBc).below hb⟩;have G1:=fun w' (hb:Kp Wb w')=>sign_any m1 B1 j1 d1 r1 w' (hZ w' hb).1.1 hj1 (by omega);have G3:=fun w' (hb:Kp Wb w')=>sign_any m3 B3 j3 d3 r3 w' (hZ w' hb).2.2.1.1 hj3 (by omega);have L1:=fun w' (hb:Kp Wb w')=>mul_in (hZ w' hb).1 (hZ w' hb).2.2.2;have L2:=fun w' (hb:Kp Wb w')=>mul_in (hZ w' hb).2.2.1 (hZ w' hb).2.1;rw [Z1.2.2.2] at G1;rw [Z3.2.2.2] at G3;have G1:=Hj G1;have G3:=Hj G3;have L1:=Hj L1;have L2:=Hj L2;have LN1:=Hj (len_mul Z1 Z4);have LN2:=Hj (len_mul Z3 Z2);clear hZ Z1 Z2 Z3 Z4 hBc hBb HSB;have s5:=Kp.refl Wb;have hrg:∀ x:Int,-1≤cmpI x 0∧cmpI x 0≤1:=fun x=>by unfold cmpI;split<;>(try split)<;>omega
 obtain ⟨r1a,r1b⟩:=hrg x1;obtain ⟨r3a,r3b⟩:=hrg x3;generalize hg1:cmpI x1 0=g1 at *;generalize hg3:cmpI x3 0=g3 at *;have HG1:=Hj hg1;have HG3:=Hj hg3;clear hrg hg1 hg3;have hS:∀ w',Kp Wb w'→(w'.cell? ⟨w1.heap.size,0,none⟩=some (.bool m1)∧w'.cell? ⟨w1.heap.size,1,none⟩=some (.slice B1 j1 d1)∧w'.cell? ⟨w1.heap.size+1,0,none⟩=some (.bool m2)∧w'.cell? ⟨w1.heap.size+1,1,none⟩=some (.slice B2 j2 d2)∧w'.cell? ⟨w2.heap.size,0,none⟩=some (.bool m3)∧w'.cell? ⟨w2.heap.size,1,none⟩=some (.slice B3 j3 d3)∧w'.cell? ⟨w2.heap.size+1,0,none⟩=some (.bool m4)∧w'.cell? ⟨w2.heap.size+1,1,none⟩=some (.slice B4 j4 d4))∧Kp Wb w':=fun w' hk=>⟨⟨(hk.blk hC0).cell 0,(hk.blk hC0).cell 1,(hk.blk hC1).cell 0,(hk.blk hC1).cell 1,(hk.blk hD0).cell 0,(hk.blk hD0).cell 1,(hk.blk hD1).cell 0,(hk.blk hD1).cell 1⟩,hk⟩;have HS:=Hj hS;clear hS
 go_region_held3 (fun w'=>(w'.cell? ⟨w1.heap.size,0,none⟩=some (.bool m1)∧w'.cell? ⟨w1.heap.size,1,none⟩=some (.slice B1 j1 d1)∧w'.cell? ⟨w1.heap.size+1,0,none⟩=some (.bool m2)∧w'.cell? ⟨w1.heap.size+1,1,none⟩=some (.slice B2 j2 d2)∧w'.cell? ⟨w2.heap.size,0,none⟩=some (.bool m3)∧w'.cell? ⟨w2.heap.size,1,none⟩=some (.slice B3 j3 d3)∧w'.cell? ⟨w2.heap.size+1,0,none⟩=some (.bool m4)∧w'.cell? ⟨w2.heap.size+1,1,none⟩=some (.slice B4 j4 d4))∧Kp Wb w')
  (with_reducible first|(refine HS.out _ ?_;assumption)|(refine HS.out _ (Kp.drew ?_);assumption)|(refine' HS.out _ (Kp.drew (And.right ?_));rotate_left;assumption))
  (first
   | (go_at_call_of 94 (Value.agg #[.bool m1,.slice B1 j1 d1]);have hk:=And.right ‹_∧Kp Wb _›;refine (G1.out _ hk).mono ?_;rintro e v1 ⟨rfl,hb1⟩;have hr1:=hk.trans hb1;clear hb1)
   | (go_at_call_of 94 (Value.agg #[.bool m3,.slice B3 j3 d3]);have hk:=And.right ‹_∧Kp Wb _›;refine (G3.out _ hk).mono ?_;rintro e v2 ⟨rfl,hb2⟩;have hr2:=hk.trans hb2;clear hb2))
 have hB2:Below w.heap.size w v2:=hBW.trans (Below.mono hr2 hBW.size);clear G1 G3;by_cases hc:g1≠g3∨g1=0
 ·have hfin:=HCS.out hc;have HFIN:=Hj hfin;have hc2:(g1 != g3)=true∨((g1 != g3)=false∧(g1 == 0)=true):=by
   by_cases h:g1=g3
   ·right;refine ⟨by simp [h],?_⟩;rcases hc with h'|h'
    ·exact absurd h h'
    ·simp [h']
   ·left;simpa using h
  have hws:=wrap_in (g1-g3) (by omega) (by omega);obtain ⟨ws1,ws2⟩:=hws;clear hfin hc L1 L2;rcases hc2 with h|⟨h,h'⟩
  all_goals
   go_wp2_with fail
   refine (fsign_any (g1-g3) v2).mono ?_;rintro e w' ⟨rfl,rfl⟩;go_wp2;go_ret;rw [HFIN.out];exact ⟨rfl,hB2⟩
 ·have h1:(g1 != g3)=false:=by simp;omega
  have h2:(g1 == 0)=false:=by simp;omega
  have s6:Kp Wb v2:=hr2;clear hc;have hXX:∀ (v:World) (X1 X2:Option Addr) (u1 u2 y1 y2:Nat),u1≤y1→u2≤y2→Wat v X1 u1 (digs (x1*x4).natAbs)→Wat v X2 u2 (digs (x3*x2).natAbs)→u1≤9223372036854775807→u2≤9223372036854775807 →
    Calls Tryz.prog 96 #[.agg #[.bool (decide (x1*x4<0)),.slice X1 u1 y1],.agg #[.bool (decide (x3*x2<0)),.slice X2 u2 y2]] v fun e w'=>e=.returned (.int .i64 (cmpI (x1*x4) (x3*x2)))∧Below v.heap.size v w':=by
   intro v X1 X2 u1 u2 y1 y2 a1 a2 a3 a4 a5 a6;have:=cmp_any (decide (x1*x4<0)) (decide (x3*x2<0)) X1 X2 u1 u2 y1 y2 _ _ v a3 a4 a1 a2 a5 a6
   rwa [val_digs,val_digs,sg_self,sg_self] at this
  generalize hy1:x1*x4=y1 at *;generalize hy2:x3*x2=y2 at *;have HY1:=Hj hy1;have HY2:=Hj hy2;clear hy1 hy2;have HXX:=Hj hXX;clear hXX
  go_wp2_with fail
  have hS:∀ w',Kp Wb w'→(w'.cell? ⟨w1.heap.size,0,none⟩=some (.bool m1)∧w'.cell? ⟨w1.heap.size,1,none⟩=some (.slice B1 j1 d1)∧w'.cell? ⟨w1.heap.size+1,0,none⟩=some (.bool m2)∧w'.cell? ⟨w1.heap.size+1,1,none⟩=some (.slice B2 j2 d2)∧w'.cell? ⟨w2.heap.size,0,none⟩=some (.bool m3)∧w'.cell? ⟨w2.heap.size,1,none⟩=some (.slice B3 j3 d3)∧w'.cell? ⟨w2.heap.size+1,0,none⟩=some (.bool m4)∧w'.cell? ⟨w2.heap.size+1,1,none⟩=some (.slice B4 j4 d4))∧Kp Wb w':=fun w' hk=>⟨⟨(hk.blk hC0).cell 0,(hk.blk hC0).cell 1,(hk.blk hC1).cell 0,(hk.blk hC1).cell 1,(hk.blk hD0).cell 0,(hk.blk hD0).cell 1,(hk.blk hD1).cell 0,(hk.blk hD1).cell 1⟩,hk⟩;have HS2:=Hj hS;clear hS
  go_region_held3 (fun w'=>(w'.cell? ⟨w1.heap.size,0,none⟩=some (.bool m1)∧w'.cell? ⟨w1.heap.size,1,none⟩=some (.slice B1 j1 d1)∧w'.cell? ⟨w1.heap.size+1,0,none⟩=some (.bool m2)∧w'.cell? ⟨w1.heap.size+1,1,none⟩=some (.slice B2 j2 d2)∧w'.cell? ⟨w2.heap.size,0,none⟩=some (.bool m3)∧w'.cell? ⟨w2.heap.size,1,none⟩=some (.slice B3 j3 d3)∧w'.cell? ⟨w2.heap.size+1,0,none⟩=some (.bool m4)∧w'.cell? ⟨w2.heap.size+1,1,none⟩=some (.slice B4 j4 d4))∧Kp Wb w')
   (with_reducible first|(refine HS2.out _ ?_;assumption)|(refine HS2.out _ (Kp.drew ?_);assumption)|(refine' HS2.out _ (Kp.drew (And.right ?_));rotate_left;assumption))
   (first
    | (go_at_call_of 97 (Value.agg #[.bool m1,.slice B1 j1 d1]);have hk:=And.right ‹_∧Kp Wb _›;refine (L1.out _ hk).mono ?_;rintro e v3 ⟨X1,u1,y3,rfl,hk1,hX1,hF1,hb1⟩;have hr3:=hk.trans hb1;clear hb1)
    | (go_at_call_of 97 (Value.agg #[.bool m3,.slice B3 j3 d3]);have hk:=And.right ‹_∧Kp Wb _›;refine (L2.out _ hk).mono ?_;rintro e v4 ⟨X2,u2,y4,rfl,hk2,hX2,hF2,hb2⟩;have hr4:=hk.trans hb2;have hX1:=hX1.below hb2;clear hb2)
    | (go_at_call 96;have hk:=And.right ‹_∧Kp Wb _›;refine (HXX.out _ X1 X2 u1 u2 y3 y4 hk1 hk2 hX1 hX2 (by have:=LN1.out;rw [← hX1.1];omega) (by have:=LN2.out;rw [← hX2.1];omega)).mono ?_;rintro e v5 ⟨rfl,hb5⟩;have hr5:=hk.trans hb5;clear hb5))
  have hB5:Below w.heap.size w v5:=hBW.trans (Below.mono hr5 hBW.size);go_wp2;go_ret;rw [HY1.out,HY2.out];exact ⟨rfl,hB5⟩
theorem qmin_any (M Nn Nd:Nat) (HO:WOK M) (hnm:Nn≤M) (hdm:Nd≤M) (an an' bn bn':Bool) (aA aA' bA bA':Option Addr) (ak ac ak' ac' bk bc bk' bc':Nat) (qa qb:Rat) (w:World)
  (ha:QAt Nn Nd w an aA ak ac an' aA' ak' ac' qa) (hb:QAt Nn Nd w bn bA bk bc bn' bA' bk' bc' qb) :
  Calls Tryz.prog 85 #[.agg #[.bool an,.slice aA ak ac,.bool an',.slice aA' ak' ac'],.agg #[.bool bn,.slice bA bk bc,.bool bn',.slice bA' bk' bc']] w (RetQ w (if qb<qa then qb else qa)):=by
 have T:=fun W (hW:Below w.heap.size w W)=>qcmp_any bn bn' an an' bA bA' aA aA' bk bc bk' bc' ak ac ak' ac' qb qa W (hb.below hW) (ha.below hW);have C1:=fun W (hW:Below w.heap.size w W)=>qcanon_any M Nn Nd HO hnm hdm an an' aA aA' ak ac ak' ac' qa W (ha.below hW);have C2:=fun W (hW:Below w.heap.size w W)=>qcanon_any M Nn Nd HO hnm hdm bn bn' bA bA' bk bc bk' bc' qb W (hb.below hW);have hc:(qb<qa∧cmpQ qb qa<0)∨(¬ qb<qa∧0≤cmpQ qb qa):=by
  unfold cmpQ;by_cases h:qb<qa
  ·left;rw [if_pos h];exact ⟨h,by omega⟩
  ·right;rw [if_neg h];exact ⟨h,by split<;>omega⟩
 generalize cmpQ qb qa=x at *;rcases hc with ⟨h1,h2⟩|⟨h1,h2⟩
 ·rw [if_pos h1];have T:=Hj T;have C2:=Hj C2;clear h1 C1;go_enter Tryz.func85,Tryz.ntmps85
  go_wp2_with fail
  obtain ⟨hB0,hB1,hB2,hBW,hsz⟩:=pre3 w 42 #[.bool an,.slice aA ak ac,.bool an',.slice aA' ak' ac'] 42 #[.bool bn,.slice bA bk bc,.bool bn',.slice bA' bk' bc'] 42 #[.bool false,.slice none 0 0,.bool false,.slice none 0 0];generalize ((w.alloc (.cells #[.bool an,.slice aA ak ac,.bool an',.slice aA' ak' ac'] 42)).alloc (.cells #[.bool bn,.slice bA bk bc,.bool bn',.slice bA' bk' bc'] 42)).alloc (.cells #[.bool false,.slice none 0 0,.bool false,.slice none 0 0] 42)=W at *;have HSZ:=Hj hsz;clear hsz;refine (T.out W hBW).mono ?_;rintro e w1 ⟨rfl,hb1⟩;have hB0:=hB0.below hb1 hB0.lt;have hB1:=hB1.below hb1 hB1.lt;have hB2:=hB2.below hb1 hB2.lt;have hb1:Below w.heap.size w w1:=hBW.trans (hb1.mono hBW.size);have hz1:w.heap.size+1+1+1≤w1.heap.size:=hB2.lt;obtain ⟨c0,c1,c2,c5,-,-,-,-⟩:=hB1.four;clear hBW HSZ T
  go_wp2_with fail
  refine (C2.out w1 hb1).mono ?_;rintro e w3 ⟨A3,k3,c3,A4,k4,c4,rfl,hk3,hk4,hW3,hW4,hF3,hF4,hb3⟩;have hr3:=(RS4.start hB2).call hb3;obtain ⟨_,_,_,_,i0,i1,i2,i3,i4,i5,i6,i7⟩:=hr3.four;have hBW:=hb1;have HSZ:Hid True:=trivial;have hfin:=retQ_close hBW (by omega) (by have:=HSZ.out;omega) hr3 hk3 hk4 hW3 hW4 hF3 hF4;obtain ⟨d0,d1,d2,d3,-,-,-,-⟩:=(hr3.done (.bool (decide ((qb).num<0))) (.slice A3 k3 c3) (.bool false) (.slice A4 k4 c4)).four;have HF:=Hj hfin;clear hfin hB0 hB1 hB2 HSZ c0 c1 c2 c5;go_wp2;refine bodyPost_ret (v:=.agg #[.bool (decide ((qb).num<0)),.slice A3 k3 c3,.bool false,.slice A4 k4 c4]) ?_ rfl HF.out;simp [results,Tryz.results85,go_sem,d0,d1,d2,d3]
 ·rw [if_neg h1];have T:=Hj T;have C1:=Hj C1;clear h1 C2;go_enter Tryz.func85,Tryz.ntmps85
  go_wp2_with fail
  obtain ⟨hB0,hB1,hB2,hBW,hsz⟩:=pre3 w 42 #[.bool an,.slice aA ak ac,.bool an',.slice aA' ak' ac'] 42 #[.bool bn,.slice bA bk bc,.bool bn',.slice bA' bk' bc'] 42 #[.bool false,.slice none 0 0,.bool false,.slice none 0 0];generalize ((w.alloc (.cells #[.bool an,.slice aA ak ac,.bool an',.slice aA' ak' ac'] 42)).alloc (.cells #[.bool bn,.slice bA bk bc,.bool bn',.slice bA' bk' bc'] 42)).alloc (.cells #[.bool false,.slice none 0 0,.bool false,.slice none 0 0] 42)=W at *;have HSZ:=Hj hsz;clear hsz;refine (T.out W hBW).mono ?_;rintro e w1 ⟨rfl,hb1⟩;have hB0:=hB0.below hb1 hB0.lt;have hB1:=hB1.below hb1 hB1.lt;have hB2:=hB2.below hb1 hB2.lt;have hb1:Below w.heap.size w w1:=hBW.trans (hb1.mono hBW.size);have hz1:w.heap.size+1+1+1≤w1.heap.size:=hB2.lt;obtain ⟨c0,c1,c2,c5,-,-,-,-⟩:=hB0.four;clear hBW HSZ T
  go_wp2_with fail
  refine (C1.out w1 hb1).mono ?_;rintro e w3 ⟨A3,k3,c3,A4,k4,c4,rfl,hk3,hk4,hW3,hW4,hF3,hF4,hb3⟩;have hr3:=(RS4.start hB2).call hb3;obtain ⟨_,_,_,_,i0,i1,i2,i3,i4,i5,i6,i7⟩:=hr3.four;have hBW:=hb1;have HSZ:Hid True:=trivial;have hfin:=retQ_close hBW (by omega) (by have:=HSZ.out;omega) hr3 hk3 hk4 hW3 hW4 hF3 hF4;obtain ⟨d0,d1,d2,d3,-,-,-,-⟩:=(hr3.done (.bool (decide ((qa).num<0))) (.slice A3 k3 c3) (.bool false) (.slice A4 k4 c4)).four;have HF:=Hj hfin;clear hfin hB0 hB1 hB2 HSZ c0 c1 c2 c5;go_wp2;refine bodyPost_ret (v:=.agg #[.bool (decide ((qa).num<0)),.slice A3 k3 c3,.bool false,.slice A4 k4 c4]) ?_ rfl HF.out;simp [results,Tryz.results85,go_sem,d0,d1,d2,d3]
theorem wok_small:WOK 4611686018427387904 where
 add:=addOK_small
 sub:=subOK_small
 div:=by
  intro A A' n n' c c' x y w h h' hx hy hn hn';exact divW_small A A' n n' c c' x y w h h' (by omega) hy hn hn'
 len:=fun x hx=>Nat.le_trans (len_le_two (by omega)) (by omega)
theorem whole_num {q : Rat} {n d z:Int} (hd:0<d) (h:q=mkRat n d.natAbs) (hz:q=(z:Rat)):n=z*d:=by
 rw [hz] at h;have hd':d.natAbs≠0:=by omega
 have e1:=mk_num n d.natAbs hd';have e2:=mk_den n d.natAbs hd';rw [← h] at e1 e2;have e3:((z:Rat)).num=z:=rfl;have e4:((z:Rat)).den=1:=rfl;rw [e3] at e1;rw [e4] at e2;have hg1:=Nat.gcd_dvd_right n.natAbs d.natAbs;have hg2:=Nat.gcd_dvd_left n.natAbs d.natAbs;generalize Nat.gcd n.natAbs d.natAbs=g at *;have hgd : d.natAbs = g := by
  obtain ⟨k,hk⟩:=hg1
  have hg0 : 0 < g := by rcases Nat.eq_zero_or_pos g with h0|h0;· rw [h0] at hk;omega
                         ·exact h0
  rw [hk,Nat.mul_div_cancel_left _ hg0] at e2;rw [hk,← e2,Nat.mul_one]
 have hgd':(g:Int)=d:=by omega
 have hdv:(g:Int) ∣ n:=Int.ofNat_dvd_left.2 hg2;rw [e1,← hgd',Int.tdiv_mul_cancel hdv]
theorem whole_parts {n d z:Int} {m1 m2:Bool} {r1 r2:List Nat} (hd:0<d) (h:n=z*d) (h1:sg m1 (val r1)=n) (h2:sg m2 (val r2)=d):val r2≠0∧val r2 ∣ val r1∧sg (m1 != m2) (val r1 / val r2)=z:=by
 have a1:val r1=n.natAbs:=by rw [← h1,sg_natAbs]
 have a2:val r2=d.natAbs:=by rw [← h2,sg_natAbs]
 have hp:0<d.natAbs:=by omega
 have a3:n.natAbs=z.natAbs*d.natAbs:=by rw [h,Int.natAbs_mul]
 have a4:n.natAbs / d.natAbs=z.natAbs:=by rw [a3,Nat.mul_div_cancel _ hp]
 refine ⟨by omega,?_,?_⟩
 ·rw [a1,a2,a3];exact Nat.dvd_mul_left _ _
 ·have hm2:m2=false:=by
   cases m2
   ·rfl
   ·unfold sg at h2;simp at h2;omega
  subst hm2;rw [a1,a2,a4];cases m1
  ·have:0≤z:=by
    by_cases hz:z<0
    ·have:n<0:=by rw [h];exact Int.mul_neg_of_neg_of_pos hz hd
     unfold sg at h1;simp at h1;omega
    ·omega
   simp [sg];omega
  ·have:z≤0:=by
    by_cases hz:0<z
    ·have:0<n:=by rw [h];exact Int.mul_pos hz hd
     unfold sg at h1;simp at h1;omega
    ·omega
   simp [sg];omega
theorem qfloor_whole (M Nn Nd : Nat) (HO : WOK M) (hnm : Nn ≤ M) (an an' : Bool) (aA aA':Option Addr) (ak ac ak' ac':Nat) (z:Int) (w:World) (ha:QAt Nn Nd w an aA ak ac an' aA' ak' ac' (z:Rat)) :
  Calls Tryz.prog 198 #[.agg #[.bool an,.slice aA ak ac,.bool an',.slice aA' ak' ac']] w (RetZ w z):=by
 obtain ⟨na,da,hq,h1,h2,h3⟩:=ha;have hz:=whole_num (qden_pos da) h3 rfl;have hd:=qden_pos da;have P:=fun W hW=>parts_in (w:=W) (h:=hq.below (w':=W) hW);generalize qnum na da=x1 at *;generalize qden da=x2 at *;have D := fun (m1 : Bool) (B1 : Option Addr) (j1 d1 : Nat) (r1 : List Nat) (m2 : Bool) (B2:Option Addr) (j2 d2:Nat) (r2:List Nat) (W:World) (hj1:j1≤d1) (hj2:j2≤d2) (hl1:j1≤10000000000) (hl2:j2≤10000000000) (hW1:Wat W B1 j1 r1) (hW2:Wat W B2 j2 r2) (hs1:sg m1 (val r1)=x1) (hs2:sg m2 (val r2)=x2) =>
  divMod_exact M HO.div m1 m2 B1 B2 j1 j2 d1 d2 r1 r2 W hW1 hW2 hj1 hj2 hl1 hl2 (by have:val r1=x1.natAbs:=by rw [← hs1,sg_natAbs]
                                                                                    omega) (whole_parts hd hz hs1 hs2).1 (whole_parts hd hz hs1 hs2).2.1
 have D:∀ (m1:Bool) (B1:Option Addr) (j1 d1:Nat) (r1:List Nat) (m2:Bool) (B2:Option Addr) (j2 d2:Nat) (r2:List Nat) (W:World) (hj1:j1≤d1) (hj2:j2≤d2) (hl1:j1≤10000000000) (hl2:j2≤10000000000) (hW1:Wat W B1 j1 r1) (hW2:Wat W B2 j2 r2) (hs1:sg m1 (val r1)=x1) (hs2:sg m2 (val r2)=x2),
   Calls Tryz.prog 153 #[.agg #[.bool m1,.slice B1 j1 d1],.agg #[.bool m2,.slice B2 j2 d2]] W (RetDM W z):=by
  intro m1 B1 j1 d1 r1 m2 B2 j2 d2 r2 W hj1 hj2 hl1 hl2 hW1 hW2 hs1 hs2;have:=D m1 B1 j1 d1 r1 m2 B2 j2 d2 r2 W hj1 hj2 hl1 hl2 hW1 hW2 hs1 hs2
  rwa [(whole_parts hd hz hs1 hs2).2.2] at this
 have P:=Hj P;have D:=Hj D;clear hz hd hq h1 h2 h3 hnm HO;go_enter Tryz.func198,Tryz.ntmps198
 go_wp2_with fail
 obtain ⟨hB0,hB1,hBW,hsz⟩:=pre2 w 42 #[.bool an,.slice aA ak ac,.bool an',.slice aA' ak' ac'] 40 #[.bool false,.slice none 0 0];generalize (w.alloc (.cells #[.bool an,.slice aA ak ac,.bool an',.slice aA' ak' ac'] 42)).alloc (.cells #[.bool false,.slice none 0 0] 40)=W at *;have HSZ:=Hj hsz;clear hsz;refine (P.out W hBW).mono ?_;rintro e w1 ⟨m1,B1,j1,d1,r1,m2,B2,j2,d2,r2,rfl,hj1,hj2,hl1,hl2,hW1,hW2,hs1,hs2,hb1⟩;have hB0:=hB0.below hb1 hB0.lt;have hB1:=hB1.below hb1 hB1.lt;have hBW:Below w.heap.size w w1:=hBW.trans (hb1.mono hBW.size);clear hb1 HSZ P;have hs1:=Hj hs1;have hs2:=Hj hs2
 go_wp2_with fail
 refine (D.out m1 B1 j1 d1 r1 m2 B2 j2 d2 r2 w1 hj1 hj2 hl1 hl2 hW1 hW2 hs1.out hs2.out).mono ?_;rintro e w2 ⟨A3,k3,c3,rfl,hk3,hW3,hF3,hb2⟩;have hr:=(RS.start hB1).call hb2;have hBW:Below w.heap.size w w1:=hBW;have hb3:Below w2.heap.size w2 ((w2.alloc (.cells #[.bool (decide (z<0)),.slice A3 k3 c3] 40)).alloc (.cells #[.bool false,.slice none 0 0] 40)):=((Below.refl _ _).alloc (Nat.le_refl _) _).alloc (by simp only [World.size_alloc];omega) _;have hr:=hr.call hb3;have hF3:=hF3.keep hW3 hb3;have hW3:=hW3.below hb3;obtain ⟨_,_,i0,i1,i2,i3⟩:=hr.two;have HSZ:Hid (w.heap.size+1<w1.heap.size):=hB1.lt;clear hb2 hb3 hB0 hB1;have hfin:=retZ_close hBW (by omega) (by have:=HSZ.out;omega) hr hk3 hW3 hF3;obtain ⟨d0,d1,-,-⟩:=(hr.done (.bool (decide (z<0))) (.slice A3 k3 c3)).two;have HF:=Hj hfin;clear hfin hW1 hW2;go_wp2;refine bodyPost_ret (v:=.agg #[.bool (decide (z<0)),.slice A3 k3 c3]) ?_ rfl HF.out;simp [results,Tryz.results198,go_sem,d0,d1]
namespace Wd
end Wd
end Go.Proofs.YtjajigkacccdgaaGreat
namespace Go.Proofs.YtjajigkacccdgaaGreat
open Go.RowKit Go.Shelf
open Wd
attribute [local go_sem] Oper.semAt_some
end Go.Proofs.YtjajigkacccdgaaGreat
namespace Go.Proofs.YtjajigkacccdgaaGreat
open Go
end Go.Proofs.YtjajigkacccdgaaGreat
namespace Go.Proofs.YtjajigkacccdgaaGreat
open Go.RowKit Go.Shelf
open Wd
attribute [local go_sem] Oper.semAt_some
end Go.Proofs.YtjajigkacccdgaaGreat
namespace Go.Proofs.YtjajigkacccdgaaGreat
namespace Wd
theorem val_take_succ (l:List Nat) (i:Nat):val (l.take (i+1))=val (l.take i)+4294967296 ^ i*l[i]?.getD 0:=by
 by_cases h:i<l.length
 ·rw [List.take_add_one,List.getElem?_eq_getElem h];show val (l.take i ++ [l[i]])=_;rw [val_snoc,List.length_take,Nat.min_eq_left (by omega)]
  rfl
 ·rw [List.take_of_length_le (by omega),List.take_of_length_le (by omega),List.getElem?_eq_none (by omega)];simp
theorem val_drop_succ (l:List Nat) (i:Nat):val (l.drop i)=l[i]?.getD 0+4294967296*val (l.drop (i+1)):=by
 by_cases h:i<l.length
 ·rw [List.drop_eq_getElem_cons h,val_cons,List.getElem?_eq_getElem h]
  rfl
 ·rw [List.drop_eq_nil_of_le (by omega),List.drop_eq_nil_of_le (by omega),List.getElem?_eq_none (by omega)]
  rfl
structure SdInv (l:List Nat) (y i:Nat) (p:List Nat) (r:Nat):Prop where
 len:p.length=l.length
 ws:Ws p
 low:∀ j,j<i→p[j]?.getD 0=l[j]?.getD 0
 eq:val (l.drop i)=y*val (p.drop i)+r
 rest:r<y
structure SmInv (u v:List Nat) (f i:Nat) (p:List Nat) (c b:Nat):Prop where
 len:p.length=u.length
 ws:Ws p
 high:∀ j,i≤j→p[j]?.getD 0=u[j]?.getD 0
 carry:c<4294967296
 borrow:b≤1
 none:v.length<i→c=0
 eq:val (u.take i)+4294967296 ^ i*(b+c)=val (p.take i)+f*val (v.take i)
end Wd
end Go.Proofs.YtjajigkacccdgaaGreat
namespace Go.Proofs.YtjajigkacccdgaaGreat
open Go.RowKit
open Wd
def Rw (w:World) (b o n:Nat) (p:List Nat):Prop :=
 p.length=n∧Ws p∧b<w.heap.size∧(∀ j,j<n→w.cell? ⟨b,o+j,none⟩=some (.int .u32 ((p[j]?.getD 0:Nat):Int)))∧∀ j,j<n→w.frozen? ⟨b,o+j,none⟩=false
structure Bx (b:Nat) (w w':World):Prop where
 os:w'.os=w.os
 tape:w'.tape=w.tape
 output:w'.output=w.output
 size:w.heap.size≤w'.heap.size
 block:∀ k,k<w.heap.size→k≠b→w'.heap[k]?=w.heap[k]?
structure EsF (f s t x P ul vl U V:Nat):Prop where
 hV:V=(f*4294967296+s)*P+vl
 hU:U=(t*4294967296+x)*P+ul
 hul:ul<P
 hvl:vl<P
 hx:x<4294967296
 hs:s<4294967296
 hf:4294967296≤2*f
 hlt:U<4294967296*V
end Go.Proofs.YtjajigkacccdgaaGreat
namespace Go.Proofs.YtjajigkacccdgaaGreat
open Go.Shelf
end Go.Proofs.YtjajigkacccdgaaGreat
namespace Go.Proofs.YtjajigkacccdgaaGreat
open Go.RowKit
open Wd
structure LdI (u0 v:List Nat) (n k:Nat) (U Q:List Nat):Prop where
 len:U.length=u0.length
 ws:Ws U
 qws:Ws Q
 low:val (U.drop k)<val v
 top:val (U.drop (k+n))=0
 eq:val u0=val v*(4294967296 ^ k*val (Q.drop k))+val U
end Go.Proofs.YtjajigkacccdgaaGreat
