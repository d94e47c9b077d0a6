/-
Lemmas of the walk; no further conditions.
-/
import Derived.Test.YtjajigkacccdgaaGreatTiAX
set_option linter.unusedVariables false
set_option linter.unusedSimpArgs false
set_option maxRecDepth 100000
set_option maxHeartbeats 16000000
namespace Go.Proofs.YtjajigkacccdgaaGreat
open Go.RowKit
open Wd
def RetD (w:World) (y:Int) (e:Ending) (w':World):Prop :=
 ∃ A1 k1 c1 A2 k2 c2,e=.returned (.tuple #[.agg #[.bool (decide (y<0)),.slice A1 k1 c1],.agg #[.bool false,.slice A2 k2 c2],.int .i64 0])∧k1≤c1∧Wat w' A1 k1 (digs y.natAbs)∧Fresh w.heap.size w' A1 k1∧Below w.heap.size w w'
theorem retD_close {w w2:World} {A A':Option Addr} {k c k' c':Nat} {z:Int} (hb:Below w.heap.size w w2) (hk:k≤c)
  (hW:Wat w2 A k (digs z.natAbs)) (hF:Fresh (w.heap.size+1+1+1+1) w2 A k) {x y x' y':Value} (hB2:Blk w2 (w.heap.size+1+1) 40 #[x,y]) (hB3:Blk w2 (w.heap.size+1+1+1) 40 #[x',y']) :
  RetD w z (.returned (.tuple #[.agg #[.bool (decide (z<0)),.slice A k c],.agg #[.bool false,.slice A' k' c'],.int .i64 0])) ((((w2.setCell ⟨w.heap.size+1+1,0,none⟩ (.bool (decide (z<0)))).setCell ⟨w.heap.size+1+1,1,none⟩ (.slice A k c)).setCell ⟨w.heap.size+1+1+1,0,none⟩ (.bool false)).setCell ⟨w.heap.size+1+1+1,1,none⟩ (.slice A' k' c')) ∧
  Blk ((((w2.setCell ⟨w.heap.size+1+1,0,none⟩ (.bool (decide (z<0)))).setCell ⟨w.heap.size+1+1,1,none⟩ (.slice A k c)).setCell ⟨w.heap.size+1+1+1,0,none⟩ (.bool false)).setCell ⟨w.heap.size+1+1+1,1,none⟩ (.slice A' k' c')) (w.heap.size+1+1) 40 #[.bool (decide (z<0)),.slice A k c] ∧
  Blk ((((w2.setCell ⟨w.heap.size+1+1,0,none⟩ (.bool (decide (z<0)))).setCell ⟨w.heap.size+1+1,1,none⟩ (.slice A k c)).setCell ⟨w.heap.size+1+1+1,0,none⟩ (.bool false)).setCell ⟨w.heap.size+1+1+1,1,none⟩ (.slice A' k' c')) (w.heap.size+1+1+1) 40 #[.bool false,.slice A' k' c']:=by
 have hW1:=hW.setFar (base:=w.heap.size+1+1+1+1) hF (p:=⟨w.heap.size+1+1,0,none⟩) (by simp) (.bool (decide (z<0)));have hF1:=hF.set ⟨w.heap.size+1+1,0,none⟩ (.bool (decide (z<0)));have hW2:=hW1.setFar hF1 (p:=⟨w.heap.size+1+1,1,none⟩) (by simp) (.slice A k c);have hF2:=hF1.set ⟨w.heap.size+1+1,1,none⟩ (.slice A k c);have hW3:=hW2.setFar hF2 (p:=⟨w.heap.size+1+1+1,0,none⟩) (by simp) (.bool false);have hF3:=hF2.set ⟨w.heap.size+1+1+1,0,none⟩ (.bool false);have hW4:=hW3.setFar hF3 (p:=⟨w.heap.size+1+1+1,1,none⟩) (by simp) (.slice A' k' c');have hF4:=hF3.set ⟨w.heap.size+1+1+1,1,none⟩ (.slice A' k' c');refine ⟨⟨A,k,c,A',k',c',rfl,hk,hW4,hF4.mono (by omega),below_set2 (below_set2 hb (by omega) _ _) (by omega) _ _⟩,?_,?_⟩
 ·exact ((hB2.set2 _ _).far (by simp) _).far (by simp) _
 ·exact ((hB3.far (by simp) _).far (by simp) _).set2 _ _
theorem rdiv_z (an:Bool) (A B:Option Addr) (n c m d:Nat) (za y:Int) (b:Nat) (w:World) (h:ZK w an A n za) (h':ZK w false B m (b:Int)) (hb0:b≠0) (hdv:b ∣ za.natAbs) (hy:sg an (za.natAbs / b)=y) :
  Calls Tryz.prog 179 #[.agg #[.bool an,.slice A n c],.agg #[.bool false,.slice B m d]] w (RetD w y):=by
 have hla:=h.len;have hlb:=h'.len;rw [Int.natAbs_natCast] at hlb;have HAB:=Hj (And.intro hla (And.intro hlb (And.intro hb0 (And.intro (Nat.mod_eq_zero_of_dvd hdv) hy))));go_enter Tryz.func179,Tryz.ntmps179
 go_wp2_with fail
 have hB0:=(((Blk.new w 40 #[.bool an,.slice A n c]).alloc (.cells #[.bool false,.slice B m d] 40)).alloc (.cells #[.bool false,.slice none 0 0] 40)).alloc (.cells #[.bool false,.slice none 0 0] 40);have hB1:=((Blk.new1 w (.cells #[.bool an,.slice A n c] 40) 40 #[.bool false,.slice B m d]).alloc (.cells #[.bool false,.slice none 0 0] 40)).alloc (.cells #[.bool false,.slice none 0 0] 40);have hB2:=(Blk.new2 w (.cells #[.bool an,.slice A n c] 40) (.cells #[.bool false,.slice B m d] 40) 40 #[.bool false,.slice none 0 0]).alloc (.cells #[.bool false,.slice none 0 0] 40);have hB3:=Blk.new3 w (.cells #[.bool an,.slice A n c] 40) (.cells #[.bool false,.slice B m d] 40) (.cells #[.bool false,.slice none 0 0] 40) 40 #[.bool false,.slice none 0 0];have hBW:Below w.heap.size w ((((w.alloc (.cells #[.bool an,.slice A n c] 40)).alloc (.cells #[.bool false,.slice B m d] 40)).alloc (.cells #[.bool false,.slice none 0 0] 40)).alloc (.cells #[.bool false,.slice none 0 0] 40)):=((((Below.refl _ _).alloc (Nat.le_refl _) _).alloc (by simp only [World.size_alloc];omega) _).alloc (by simp only [World.size_alloc];omega) _).alloc (by simp only [World.size_alloc];omega) _;have hsz:((((w.alloc (.cells #[.bool an,.slice A n c] 40)).alloc (.cells #[.bool false,.slice B m d] 40)).alloc (.cells #[.bool false,.slice none 0 0] 40)).alloc (.cells #[.bool false,.slice none 0 0] 40)).heap.size=w.heap.size+1+1+1+1:=by simp
 generalize (((w.alloc (.cells #[.bool an,.slice A n c] 40)).alloc (.cells #[.bool false,.slice B m d] 40)).alloc (.cells #[.bool false,.slice none 0 0] 40)).alloc (.cells #[.bool false,.slice none 0 0] 40)=W at *;have HSZ:=Hj hsz;clear hsz;have TA:=Hj (h.ta (c:=c) hBW);have TB:=Hj (h'.ta (c:=d) hBW);rw [Int.natAbs_natCast] at TB;generalize za.natAbs=a at *;clear h h' hla hlb hb0 hdv hy
 go_upto_region 1 with fail
 have hS:∀ w',Kp W w'→(w'.cell? ⟨w.heap.size,1,none⟩=some (.slice A n c)∧w'.cell? ⟨w.heap.size+1,1,none⟩=some (.slice B m d))∧Kp W w':=fun w' hk=>⟨⟨(hk.blk hB0).cell 1,(hk.blk hB1).cell 1⟩,hk⟩;have HS:=Hj hS;have s5:=Kp.refl W;clear hS
 go_cut [7,8] (fun s t wx=>∃ A1 n1 c1 A2 n2 c2,s=.slice A1 n1 c1∧t=.slice A2 n2 c2∧Hid (Kp W wx∧HA wx A1 n1 c1 a∧HA wx A2 n2 c2 b))
 case first =>
  go_region_held3 (fun w'=>(w'.cell? ⟨w.heap.size,1,none⟩=some (.slice A n c)∧w'.cell? ⟨w.heap.size+1,1,none⟩=some (.slice B m d))∧Kp W w')
   (with_reducible first|(refine HS.out _ ?_;assumption)|(refine HS.out _ (Kp.drew ?_);assumption)|(refine' HS.out _ (Kp.drew (And.right ?_));rotate_left;assumption))
   (first
    | (go_at_call_of 186 (Value.slice A n c);have hk:=And.right ‹_∧Kp W _›;refine (TA.out _ hk).mono ?_;rintro e v4 ⟨A4,n4,c4,rfl,hI4,hb4⟩;have hp4:=Kp.trans hk hb4;(try have hI5:=hI5.below hb4);clear hk)
    | (go_at_call_of 186 (Value.slice B m d);have hk:=And.right ‹_∧Kp W _›;refine (TB.out _ hk).mono ?_;rintro e v5 ⟨A5,n5,c5,rfl,hI5,hb5⟩;have hp5:=Kp.trans hk hb5;(try have hI4:=hI4.below hb5);clear hk))
  all_goals
   (try go_wp2_with fail)
   go_meet
   first
    | exact ⟨A4,n4,c4,A5,n5,c5,rfl,rfl,Hj ⟨hp5,hI4,hI5⟩⟩
    | exact ⟨A4,n4,c4,A5,n5,c5,rfl,rfl,Hj ⟨hp4,hI4,hI5⟩⟩
 case rest =>
  obtain ⟨A1,n1,c1,A2,n2,c2,rfl,rfl,HV⟩:=hcut;generalize wc=V at *;have hn2:n2≠0:=fun h=>HAB.out.2.2.1 (HV.out.2.2.zero.1 h);have e1:((n2:Int) == 0)=false:=by simp;omega
  have e2:(n2 == 0)=false:=by simp;omega
  have TD:=Hj (div_ra A1 A2 n1 c1 n2 c2 a b V HV.out.2.1 HV.out.2.2 (Nat.pos_of_ne_zero HAB.out.2.2.1) (by rw [HV.out.2.1.1];have:=HAB.out.1;omega) (by rw [HV.out.2.2.1];have:=HAB.out.2.1;omega));have HB0:=Hj (Kp.blk HV.out.1 hB0);have HB1:=Hj (Kp.blk HV.out.1 hB1);have HB2:=Hj (Kp.blk HV.out.1 hB2);have HB3:=Hj (Kp.blk HV.out.1 hB3);have HBW:=Hj (hBW.trans (Below.mono HV.out.1 hBW.size));have HSV:=Hj (show w.heap.size+1+1+1+1≤V.heap.size by have:=HSZ.out;have:=Below.size HV.out.1;omega);clear TA TB HS s5 hB0 hB1 hB2 hB3 hBW HV hn2
  go_wp2_with fail
  refine TD.out.mono ?_;rintro e v7 ⟨A6,n6,c6,A7,n7,c7,rfl,h6,h7,hb7⟩;rw [HAB.out.2.2.2.1] at h7;obtain rfl:n7=0:=h7.zero.2 rfl;have hl6:n6≤6000000000:=by rw [h6.1];exact Nat.le_trans (hd_len_mono (Nat.div_le_self a b)) HAB.out.1
  have TQ:=Hj (fun (W':World) (hW:Kp v7 W')=>of_any an A6 n6 c6 (a / b) W' (h6.below hW).ra (by omega));rw [HAB.out.2.2.2.2] at TQ;have TR:=Hj (fun (W':World) (hW:Kp v7 W')=>of_any false A7 0 c7 0 W' (h7.below hW).ra (by omega));simp only [show sg false 0=((0:Nat):Int) from rfl] at TR;have hB0:=HB0.out.below hb7 HB0.out.lt;have hB1:=HB1.out.below hb7 HB1.out.lt;have hB2:=HB2.out.below hb7 HB2.out.lt;have hB3:=HB3.out.below hb7 HB3.out.lt;have HBW7:=Hj (HBW.out.trans (hb7.mono HBW.out.size));have HSV7:=Hj (Nat.le_trans HSV.out hb7.size);obtain ⟨p0,p1,-,-⟩:=hB0.two;obtain ⟨p2,p3,-,-⟩:=hB1.two;have g1:decide ((0:Int)<((0:Nat):Int))=false:=by decide
  clear h6 h7 hl6 hb7 HB0 HB1 HB2 HB3 HBW TD e1 e2 hB0 hB1 HSV HAB;cases an
  all_goals
   go_wp2_with fail
   refine (TQ.out _ (Kp.refl _)).mono ?_;rintro e v8 ⟨A8,k8,c8,rfl,hk8,hW8,hF8,hb8⟩
   go_wp2_with fail
   refine (TR.out _ hb8).mono ?_;intro e v9 hr9;obtain ⟨A9,k9,c9,rfl,hk9,hW9,hF9,hb9⟩:=hr9.toN;have hb79:Below v7.heap.size v7 v9:=hb8.trans (hb9.mono hb8.size);have g2:=hB2.below hb79 hB2.lt;have g3:=hB3.below hb79 hB3.lt;obtain ⟨d0,d1,f0,f1⟩:=g2.two;obtain ⟨d2,d3,f2,f3⟩:=g3.two;obtain ⟨q1,q2,q3⟩:=retD_close (A':=A9) (k':=k9) (c':=c9) (HBW7.out.trans (hb79.mono HBW7.out.size)) hk8 (hW8.below hb9) ((hF8.keep hW8 hb9).mono HSV7.out) g2 g3;have D0:=Hj (q2.cell 0);have D1:=Hj (q2.cell 1);have D2:=Hj (q3.cell 0);have D3:=Hj (q3.cell 1);have HF:=Hj q1;clear q1 q2 q3 hb79 hb9 hb8 hW8 hF8 hW9 hF9 g2 g3 hB2 hB3 hr9 TQ TR;go_wp2;refine bodyPost_ret (v:=_) ?_ rfl HF.out;have d0:=D0.out;have d1:=D1.out;have d2:=D2.out;have d3:=D3.out;simp at d0 d1 d2 d3;simp [results,Tryz.results179,go_sem,d0,d1,d2,d3]
theorem rcmp_z (A B:Option Addr) (n c m d a b:Nat) (w:World) (h:ZK w false A n (a:Int)) (h':ZK w false B m (b:Int)) (ha:0<a) (hb:0<b) :
  Calls Tryz.prog 180 #[.agg #[.bool false,.slice A n c],.agg #[.bool false,.slice B m d]] w fun e w'=>e=.returned (.int .i64 (cmpN a b))∧Below w.heap.size w w':=by
 have hla:=h.len;have hlb:=h'.len;rw [Int.natAbs_natCast] at hla hlb;have TC:=Hj (fun (W:World) (A1:Option Addr) (n1 c1:Nat) (A2:Option Addr) (n2 c2:Nat) (h1:HA W A1 n1 c1 a) (h2:HA W A2 n2 c2 b)=>cmp_ra A1 A2 n1 c1 n2 c2 a b W h1.ra h2.ra (by rw [h1.1];omega) (by rw [h2.1];omega));go_enter Tryz.func180,Tryz.ntmps180
 go_wp2_with fail
 obtain ⟨hB0,hB1,hBW,hsz⟩:=pre2 w 40 #[.bool false,.slice A n c] 40 #[.bool false,.slice B m d];generalize (w.alloc (.cells #[.bool false,.slice A n c] 40)).alloc (.cells #[.bool false,.slice B m d] 40)=W at *;have HSZ:=Hj hsz;clear hsz;have TA:=Hj (h.ta (c:=c) hBW);have TB:=Hj (h'.ta (c:=d) hBW);rw [Int.natAbs_natCast] at TA TB;have SA:=Hj (fun W' (hW:Kp W W')=>rsign_z false A n c (a:Int) W' (h.below (hBW.trans (Below.mono hW hBW.size))));have SB:=Hj (fun W' (hW:Kp W W')=>rsign_z false B m d (b:Int) W' (h'.below (hBW.trans (Below.mono hW hBW.size))));rw [cmpI_gt (show (0:Int)<(a:Int) by omega)] at SA;rw [cmpI_gt (show (0:Int)<(b:Int) by omega)] at SB;have s5:=Kp.refl W;have HBW:=Hj hBW;clear h h' hla hlb ha hb hBW;have hS:∀ w',Kp W w'→(w'.cell? ⟨w.heap.size,0,none⟩=some (.bool false)∧w'.cell? ⟨w.heap.size,1,none⟩=some (.slice A n c)∧w'.cell? ⟨w.heap.size+1,0,none⟩=some (.bool false)∧w'.cell? ⟨w.heap.size+1,1,none⟩=some (.slice B m d))∧Kp W w':=fun w' hk=>⟨⟨(hk.blk hB0).cell 0,(hk.blk hB0).cell 1,(hk.blk hB1).cell 0,(hk.blk hB1).cell 1⟩,hk⟩;have HS:=Hj hS;clear hS
 go_region_held3 (fun w'=>(w'.cell? ⟨w.heap.size,0,none⟩=some (.bool false)∧w'.cell? ⟨w.heap.size,1,none⟩=some (.slice A n c)∧w'.cell? ⟨w.heap.size+1,0,none⟩=some (.bool false)∧w'.cell? ⟨w.heap.size+1,1,none⟩=some (.slice B m d))∧Kp W w')
  (with_reducible first|(refine HS.out _ ?_;assumption)|(refine HS.out _ (Kp.drew ?_);assumption)|(refine' HS.out _ (Kp.drew (And.right ?_));rotate_left;assumption))
  (first
   | (go_at_call_of 156 (Value.agg #[Value.bool false,Value.slice A n c]);have hk:=And.right ‹_∧Kp W _›;refine (SA.out _ hk).mono ?_;rintro e v4 ⟨rfl,hb⟩;have hp:=Kp.trans hk hb;clear hk hb)
   | (go_at_call_of 156 (Value.agg #[Value.bool false,Value.slice B m d]);have hk:=And.right ‹_∧Kp W _›;refine (SB.out _ hk).mono ?_;rintro e v5 ⟨rfl,hb⟩;have hp:=Kp.trans hk hb;clear hk hb))
 all_goals
  clear HS
  go_wp2_with fail
  have hS:∀ w',Kp W w'→(w'.cell? ⟨w.heap.size,1,none⟩=some (.slice A n c)∧w'.cell? ⟨w.heap.size+1,1,none⟩=some (.slice B m d))∧Kp W w':=fun w' hk=>⟨⟨(hk.blk hB0).cell 1,(hk.blk hB1).cell 1⟩,hk⟩;have HS2:=Hj hS;clear hS
  go_region_held3 (fun w'=>(w'.cell? ⟨w.heap.size,1,none⟩=some (.slice A n c)∧w'.cell? ⟨w.heap.size+1,1,none⟩=some (.slice B m d))∧Kp W w')
   (with_reducible first|(refine HS2.out _ ?_;assumption)|(refine HS2.out _ (Kp.drew ?_);assumption)|(refine' HS2.out _ (Kp.drew (And.right ?_));rotate_left;assumption))
   (first
    | (go_at_call_of 186 (Value.slice A n c);have hk:=And.right ‹_∧Kp W _›;refine (TA.out _ hk).mono ?_;rintro e v4 ⟨A4,n4,c4,rfl,hI4,hb4⟩;have hp:=Kp.trans hk hb4;(try have hI5:=hI5.below hb4);clear hk hb4)
    | (go_at_call_of 186 (Value.slice B m d);have hk:=And.right ‹_∧Kp W _›;refine (TB.out _ hk).mono ?_;rintro e v5 ⟨A5,n5,c5,rfl,hI5,hb5⟩;have hp:=Kp.trans hk hb5;(try have hI4:=hI4.below hb5);clear hk hb5)
    | (go_at_call 188;have hk:=And.right ‹_∧Kp W _›;refine (TC.out _ _ _ _ _ _ _ hI4 hI5).mono ?_;rintro e v9 ⟨rfl,hv9⟩;rw [hv9];clear hv9))
  all_goals
   clear HS2;have hB0':=hp.blk hB0;obtain ⟨p0,p1,-,-⟩:=hB0'.two
   go_wp2_with fail
   refine (SA.out _ hp).mono ?_;rintro e v9 ⟨rfl,hb9⟩;have HF:=Hj (HBW.out.trans ((Below.mono hp HBW.out.size).trans (hb9.mono (Nat.le_trans HBW.out.size (Below.size hp)))));clear hb9 hp hB0' hB0 hB1 p0 p1 hI4 hI5;go_wp2;go_ret;exact ⟨rfl,HF.out⟩
def QZ (w:World) (an:Bool) (A:Option Addr) (n:Nat) (bn:Bool) (B:Option Addr) (m:Nat) (na da:Int):Prop:=ZK w an A n na∧ZK w bn B m da
theorem QZ.below {w w':World} {an bn:Bool} {A B:Option Addr} {n m:Nat} {na da:Int} (h:QZ w an A n bn B m na da) (hb:Below w.heap.size w w'):QZ w' an A n bn B m na da:=⟨h.1.below hb,h.2.below hb⟩
theorem rone_z (w:World):Calls Tryz.prog 181 #[] w (RetN w 1):=by
 have T:=Hj (fun W=>rfrom_any 1 W (by decide) (by decide));go_enter Tryz.func181,Tryz.ntmps181
 go_wp2_with fail
 obtain ⟨hB0,hBW,hsz⟩:=pre1 w 40 #[.bool false,.slice none 0 0];generalize w.alloc (.cells #[.bool false,.slice none 0 0] 40)=W at *;have HSZ:=Hj hsz;clear hsz;have hr1:=RS.start hB0;refine (T.out _).mono ?_;intro e w3 hr;obtain ⟨A3,k3,c3,rfl,hk3,hW3,hF3,hb3⟩:=RetZ.toN (v:=1) hr;have hr3:=hr1.call hb3;obtain ⟨_,_,c0,c1,f0,f1⟩:=hr3.two;have hfin:=(retZ_close (z:=((1:Nat):Int)) hBW (by omega) (by have:=HSZ.out;omega) hr3 hk3 hW3 hF3).toN;simp only [show decide (((1:Nat):Int)<0)=false by decide] at hfin;obtain ⟨d0,d1,-,-⟩:=(hr3.done (.bool false) (.slice A3 k3 c3)).two;have HF:=Hj hfin;clear hfin hr hr1 hr3 hW3 hF3 hb3 T;go_wp2;refine bodyPost_ret (v:=.agg #[.bool false,.slice A3 k3 c3]) ?_ rfl HF.out;simp [results,Tryz.results181,go_sem,d0,d1]
theorem rden_z (an bn:Bool) (A B:Option Addr) (n c m d:Nat) (na da:Int) (w:World) (h:QZ w an A n bn B m na da) :
  Calls Tryz.prog 130 #[.agg #[.bool an,.slice A n c,.bool bn,.slice B m d]] w (RetN w (qden da).natAbs):=by
 go_enter Tryz.func130,Tryz.ntmps130
 go_wp2_with fail
 obtain ⟨hB0,hB1,hBW,hsz⟩:=pre2 w 42 #[.bool an,.slice A n c,.bool bn,.slice B m d] 40 #[.bool false,.slice none 0 0];generalize (w.alloc (.cells #[.bool an,.slice A n c,.bool bn,.slice B m d] 42)).alloc (.cells #[.bool false,.slice none 0 0] 40)=W at *;have HSZ:=Hj hsz;clear hsz;have T:=Hj (fun W' (hW:Kp W W')=>rsign_z bn B m d da W' (h.2.below (hBW.trans (Below.mono hW hBW.size))));have TA:=Hj (fun W' (hW:Kp W W')=>rabs_z bn B m d da W' (h.2.below (hBW.trans (Below.mono hW hBW.size))));have TO:=Hj (fun W'=>rone_z W');obtain ⟨p0,p1,p2,p3,-,-,-,-⟩:=hB0.four;clear h
 go_wp2_with fail
 refine (T.out _ (Kp.refl W)).mono ?_;rintro e w1 ⟨rfl,hb1⟩;have hr1:=(RS.start hB1).call hb1;have hB0:=hB0.below hb1 hB0.lt;obtain ⟨p0,p1,p2,p3,-,-,-,-⟩:=hB0.four;have HK1:=Hj (show Kp W w1 from hb1);have HBW:=Hj hBW;clear hb1 T hB0 hB1 hBW;by_cases h0:da=0
 ·subst h0;rw [show cmpI (0:Int) 0=0 from rfl,show (qden 0).natAbs=1 from rfl]
  go_wp2_with fail
  refine (TO.out _).mono ?_;rintro e w3 ⟨A3,k3,c3,rfl,hk3,hW3,hF3,hb3⟩;have hr3:=hr1.call hb3;obtain ⟨_,_,c0,c1,f0,f1⟩:=hr3.two;have hfin:=(retZ_close (z:=((1:Nat):Int)) HBW.out (by omega) (by have:=HSZ.out;have:=Below.size HK1.out;omega) hr3 hk3 hW3 hF3).toN;simp only [show decide (((1:Nat):Int)<0)=false by decide] at hfin;obtain ⟨d0,d1,-,-⟩:=(hr3.done (.bool false) (.slice A3 k3 c3)).two;have HF:=Hj hfin;clear hfin hr1 hr3 hW3 hF3 hb3 TA TO;go_wp2;refine bodyPost_ret (v:=.agg #[.bool false,.slice A3 k3 c3]) ?_ rfl HF.out;simp [results,Tryz.results130,go_sem,d0,d1]
 ·have hq:(qden da).natAbs=da.natAbs:=by unfold qden;rw [if_neg h0];split<;>omega
  have d1:(cmpI da 0 == 0)=false:=by unfold cmpI;split<;>(try split)<;>simp_all;omega
  generalize cmpI da 0=sv at *;have TA1:=Hj (TA.out w1 HK1.out);generalize da.natAbs=v at *;have HQ:=Hj hq;clear hq h0 TA
  go_wp2_with fail
  refine TA1.out.mono ?_;intro e w3 hr;obtain ⟨A3,k3,c3,rfl,hk3,hW3,hF3,hb3⟩:=RetZ.toN (v:=v) hr;have hr3:=hr1.call hb3;obtain ⟨_,_,c0,c1,f0,f1⟩:=hr3.two;have hfin:=(retZ_close (z:=((v:Nat):Int)) HBW.out (by omega) (by have:=HSZ.out;have:=Below.size HK1.out;omega) hr3 hk3 hW3 hF3).toN;simp only [show decide (((v:Nat):Int)<0)=false by simp] at hfin;obtain ⟨d0,d1,-,-⟩:=(hr3.done (.bool false) (.slice A3 k3 c3)).two;have HF:=Hj hfin;clear hfin hr hr1 hr3 hW3 hF3 hb3 TA1 TO;go_wp2;refine bodyPost_ret (v:=.agg #[.bool false,.slice A3 k3 c3]) ?_ rfl (by rw [HQ.out];exact HF.out);simp [results,Tryz.results130,go_sem,d0,d1]
theorem rnum_z (an bn:Bool) (A B:Option Addr) (n c m d:Nat) (na da:Int) (w:World) (h:QZ w an A n bn B m na da) :
  Calls Tryz.prog 129 #[.agg #[.bool an,.slice A n c,.bool bn,.slice B m d]] w (RetZ w (qnum na da)):=by
 go_enter Tryz.func129,Tryz.ntmps129
 go_wp2_with fail
 obtain ⟨hB0,hB1,hBW,hsz⟩:=pre2 w 42 #[.bool an,.slice A n c,.bool bn,.slice B m d] 40 #[.bool false,.slice none 0 0];generalize (w.alloc (.cells #[.bool an,.slice A n c,.bool bn,.slice B m d] 42)).alloc (.cells #[.bool false,.slice none 0 0] 40)=W at *;have HSZ:=Hj hsz;clear hsz;have T:=Hj (fun W' (hW:Kp W W')=>rsign_z bn B m d da W' (h.2.below (hBW.trans (Below.mono hW hBW.size))));have TA:=Hj (fun W' (hW:Kp W W')=>rneg_z an A n c na W' (h.1.below (hBW.trans (Below.mono hW hBW.size))));have TO:=Hj (fun W' (hW:Kp W W')=>rleast_z an A n c na W' (h.1.below (hBW.trans (Below.mono hW hBW.size))));obtain ⟨p0,p1,p2,p3,-,-,-,-⟩:=hB0.four;clear h
 go_wp2_with fail
 refine (T.out _ (Kp.refl W)).mono ?_;rintro e w1 ⟨rfl,hb1⟩;have hr1:=(RS.start hB1).call hb1;have hB0:=hB0.below hb1 hB0.lt;obtain ⟨p0,p1,p2,p3,-,-,-,-⟩:=hB0.four;have HK1:=Hj (show Kp W w1 from hb1);have HBW:=Hj hBW;clear hb1 T hB0 hB1 hBW;by_cases h0:da<0
 ·have hq:qnum na da = -na:=by unfold qnum;rw [if_pos h0]
  have d1:decide (cmpI da 0<0)=true:=by rw [cmpI_lt h0];decide
  have T1:=Hj (TA.out w1 HK1.out);generalize -na=y at *;generalize cmpI da 0=sv at *;have HQ:=Hj hq;clear hq h0 TA TO
  go_wp2_with fail
  refine T1.out.mono ?_;rintro e w3 ⟨A3,k3,c3,rfl,hk3,hW3,hF3,hb3⟩;have hr3:=hr1.call hb3;obtain ⟨_,_,c0,c1,f0,f1⟩:=hr3.two;have hfin:=retZ_close HBW.out (by omega) (by have:=HSZ.out;have:=Below.size HK1.out;omega) hr3 hk3 hW3 hF3;generalize decide (y<0)=sb at *;obtain ⟨d0,d1,-,-⟩:=(hr3.done (.bool sb) (.slice A3 k3 c3)).two;have HF:=Hj hfin;clear hfin hr1 hr3 hW3 hF3 hb3 T1;go_wp2;refine bodyPost_ret (v:=.agg #[.bool sb,.slice A3 k3 c3]) ?_ rfl (by rw [HQ.out];exact HF.out);simp [results,Tryz.results129,go_sem,d0,d1]
 ·have hq:qnum na da=na:=by unfold qnum;rw [if_neg h0]
  have d1:decide (cmpI da 0<0)=false:=by unfold cmpI;rw [if_neg h0];split<;>decide
  have T1:=Hj (TO.out w1 HK1.out);obtain ⟨y,hy⟩:∃ y,y=na:=⟨_,rfl⟩;replace hq:qnum na da=y:=by rw [hq,hy]
  rw [← hy] at T1;clear hy;generalize cmpI da 0=sv at *;have HQ:=Hj hq;clear hq h0 TA TO
  go_wp2_with fail
  refine T1.out.mono ?_;rintro e w3 ⟨A3,k3,c3,rfl,hk3,hW3,hF3,hb3⟩;have hr3:=hr1.call hb3;obtain ⟨_,_,c0,c1,f0,f1⟩:=hr3.two;have hfin:=retZ_close HBW.out (by omega) (by have:=HSZ.out;have:=Below.size HK1.out;omega) hr3 hk3 hW3 hF3;generalize decide (y<0)=sb at *;obtain ⟨d0,d1,-,-⟩:=(hr3.done (.bool sb) (.slice A3 k3 c3)).two;have HF:=Hj hfin;clear hfin hr1 hr3 hW3 hF3 hb3 T1;go_wp2;refine bodyPost_ret (v:=.agg #[.bool sb,.slice A3 k3 c3]) ?_ rfl (by rw [HQ.out];exact HF.out);simp [results,Tryz.results129,go_sem,d0,d1]
theorem RetD.nat {w:World} {v:Nat} {e:Ending} {w':World} (h:RetD w (v:Int) e w'):∃ A1 k1 c1 A2 k2 c2,e=.returned (.tuple #[.agg #[.bool false,.slice A1 k1 c1],.agg #[.bool false,.slice A2 k2 c2],.int .i64 0])∧k1≤c1∧Wat w' A1 k1 (digs v)∧Fresh w.heap.size w' A1 k1∧Below w.heap.size w w':=by
 obtain ⟨A1,k1,c1,A2,k2,c2,h1,h2,h3,h4⟩:=h;rw [show decide ((v:Int)<0)=false by simp] at h1;exact ⟨A1,k1,c1,A2,k2,c2,h1,h2,h3,h4⟩
theorem rover_z (an:Bool) (A B:Option Addr) (n c m d:Nat) (z:Int) (dv:Nat) (w:World) (h:ZK w an A n z) (h':ZK w false B m (dv:Int)) (hd0:dv≠0) :
  Calls Tryz.prog 128 #[.agg #[.bool an,.slice A n c],.agg #[.bool false,.slice B m d]] w (RetQ w (mkRat z dv)):=by
 have hla:=h.len;have hlb:=h'.len;rw [Int.natAbs_natCast] at hlb;obtain ⟨g,hg⟩:∃ g,g=Nat.gcd z.natAbs dv:=⟨_,rfl⟩;have hg0:g≠0:=by rw [hg];exact Nat.gcd_ne_zero_right hd0
 have hg1:g ∣ z.natAbs:=by rw [hg];exact Nat.gcd_dvd_left _ _
 have hg2:g ∣ dv:=by rw [hg];exact Nat.gcd_dvd_right _ _
 have hgl:(hd ((g:Nat):Int).natAbs).length≤6000000000:=by rw [Int.natAbs_natCast];exact Nat.le_trans (hd_len_mono (Nat.le_of_dvd (Nat.pos_of_ne_zero hd0) hg2)) hlb
 have hnum:sg an (z.natAbs / g)=(mkRat z dv).num:=by rw [mk_num _ _ hd0,← hg,← sg_tdiv,h.sg]
 have hden:dv / g=(mkRat z dv).den:=by rw [mk_den _ _ hd0,← hg]
 have hden':sg false ((((dv:Nat):Int)).natAbs / g)=((dv / g:Nat):Int):=by rw [Int.natAbs_natCast];rfl
 rw [hden] at hden';have hdl:(hd (mkRat z dv).den).length≤6000000000:=by rw [← hden];exact Nat.le_trans (hd_len_mono (Nat.div_le_self _ _)) hlb
 have hdp:0<(mkRat z dv).den:=(mkRat z dv).den_pos;have TG:=Hj (fun W' (hW:Below w.heap.size w W')=>gcd_z an false A B n c m d z (dv:Int) W' (h.below hW) (h'.below hW));rw [Int.natAbs_natCast,← hg] at TG;have TN:=Hj (fun W' (hW:Below w.heap.size w W') (G:Option Addr) (gn gc:Nat) (hG:Wat W' G gn (digs g))=>rdiv_z an A G n c gn gc z (mkRat z dv).num g W' (h.below hW) (zk_of (z:=(g:Int)) (by rw [Int.natAbs_natCast];exact hG) hgl) hg0 hg1 hnum);have TD:=Hj (fun W' (hW:Below w.heap.size w W') (G:Option Addr) (gn gc:Nat) (hG:Wat W' G gn (digs g))=>rdiv_z false B G m d gn gc (dv:Int) ((mkRat z dv).den:Int) g W' (h'.below hW) (zk_of (z:=(g:Int)) (by rw [Int.natAbs_natCast];exact hG) hgl) hg0 (by rw [Int.natAbs_natCast];exact hg2) hden');have TC:=Hj (fun W' (D O:Option Addr) (dn dc on oc:Nat) (hD:Wat W' D dn (digs (mkRat z dv).den)) (hO:Wat W' O on (digs 1))=>rcmp_z D O dn dc on oc (mkRat z dv).den 1 W' (zk_of (z:=((mkRat z dv).den:Int)) (by rw [Int.natAbs_natCast];exact hD) (by rw [Int.natAbs_natCast];exact hdl)) (zk_of (z:=((1:Nat):Int)) hO (by rw [Int.natAbs_natCast];exact Nat.le_trans ((hd_len_le (n:=1) (k:=1)).2 (by decide)) (by decide))) hdp (by decide));have TO:=Hj (fun W'=>rone_z W');generalize mkRat z dv=q at *;clear h h' hla hlb hg hg0 hg1 hg2 hgl hnum hden hden' hdl hd0;go_enter Tryz.func128,Tryz.ntmps128
 go_wp2_with fail
 obtain ⟨hB0,hB1,hB2,hBW,hsz⟩:=pre3 w 40 #[.bool an,.slice A n c] 40 #[.bool false,.slice B m d] 42 #[.bool false,.slice none 0 0,.bool false,.slice none 0 0];generalize ((w.alloc (.cells #[.bool an,.slice A n c] 40)).alloc (.cells #[.bool false,.slice B m d] 40)).alloc (.cells #[.bool false,.slice none 0 0,.bool false,.slice none 0 0] 42)=W at *;have HSZ:=Hj hsz;clear hsz;obtain ⟨p0,p1,-,-⟩:=hB0.two;obtain ⟨p2,p3,-,-⟩:=hB1.two;have hr1:=RS4.start hB2;have HBW0:=Hj hBW
 go_wp2_with fail
 refine (TG.out W hBW).mono ?_;rintro e w1 ⟨A1,k1,c1,rfl,hk1,hW1,hF1,hb1⟩;have hB0:=(hB0.below hb1 hB0.lt).alloc (.cells #[.bool false,.slice A1 k1 c1] 40);have hB1:=(hB1.below hb1 hB1.lt).alloc (.cells #[.bool false,.slice A1 k1 c1] 40);have hB5:=Blk.new w1 40 #[.bool false,.slice A1 k1 c1];have ha:=hb1.alloc hb1.size (.cells #[.bool false,.slice A1 k1 c1] 40);have hr1:=hr1.call ha;have hBW1:=hBW.trans (ha.mono hBW.size);have hW1:=hW1.alloc (.cells #[.bool false,.slice A1 k1 c1] 40);obtain ⟨p0,p1,-,-⟩:=hB0.two;obtain ⟨p4,p5,-,-⟩:=hB5.two;clear TG hb1 ha hF1 hBW p2 p3
 go_wp2_with fail
 generalize w1.alloc (.cells #[.bool false,.slice A1 k1 c1] 40)=Wa at *;refine (TN.out Wa hBW1 A1 k1 c1 hW1).mono ?_;rintro e w2 ⟨A2,k2,c2,A3,k3,c3,rfl,hk2,hW2,hF2,hb2⟩;have hF2:=hF2.mono (base':=w.heap.size+1+1+1) (by have:=HSZ.out;have:=Below.size hr1.1;have:=hr1.2;obtain ⟨_,_,_,_,hx⟩:=this;have:=hx.lt;omega);have hB1:=((hB1.below hb2 hB1.lt).alloc (.cells #[.bool (decide (q.num<0)),.slice A2 k2 c2] 40)).alloc (.cells #[.bool false,.slice A3 k3 c3] 40);have hB5:=((hB5.below hb2 hB5.lt).alloc (.cells #[.bool (decide (q.num<0)),.slice A2 k2 c2] 40)).alloc (.cells #[.bool false,.slice A3 k3 c3] 40);have hB6:=(Blk.new w2 40 #[.bool (decide (q.num<0)),.slice A2 k2 c2]).alloc (.cells #[.bool false,.slice A3 k3 c3] 40);have ha:=(hb2.alloc hb2.size (.cells #[.bool (decide (q.num<0)),.slice A2 k2 c2] 40)).alloc (Nat.le_trans hb2.size (by simp only [World.size_alloc];omega)) (.cells #[.bool false,.slice A3 k3 c3] 40);have hr1:=hr1.call ha;have hBW2:=hBW1.trans (ha.mono hBW1.size);have hW1:=hW1.below ha;have hx2:Below w2.heap.size w2 ((w2.alloc (.cells #[.bool (decide (q.num<0)),.slice A2 k2 c2] 40)).alloc (.cells #[.bool false,.slice A3 k3 c3] 40)):=((Below.refl _ _).alloc (Nat.le_refl _) _).alloc (by simp only [World.size_alloc];omega) _;have hF2:=hF2.keep hW2 hx2;have hW2:=hW2.below hx2;obtain ⟨p2,p3,-,-⟩:=hB1.two;obtain ⟨p4,p5,-,-⟩:=hB5.two;clear TN hb2 ha hx2 p0 p1 hB0 hBW1;generalize hsb:decide (q.num<0)=sb at *
 go_wp2_with fail
 generalize (w2.alloc (.cells #[.bool sb,.slice A2 k2 c2] 40)).alloc (.cells #[.bool false,.slice A3 k3 c3] 40)=Wb at *;refine (TD.out Wb hBW2 A1 k1 c1 hW1).mono ?_;intro e w3 hr3;obtain ⟨A4,k4,c4,A5,k5,c5,rfl,hk4,hW4,hF4,hb3⟩:=hr3.nat;have hB6:=((hB6.below hb3 hB6.lt).alloc (.cells #[.bool false,.slice A4 k4 c4] 40)).alloc (.cells #[.bool false,.slice A5 k5 c5] 40);have hB9:=(Blk.new w3 40 #[.bool false,.slice A4 k4 c4]).alloc (.cells #[.bool false,.slice A5 k5 c5] 40);have hx3:Below w3.heap.size w3 ((w3.alloc (.cells #[.bool false,.slice A4 k4 c4] 40)).alloc (.cells #[.bool false,.slice A5 k5 c5] 40)):=((Below.refl _ _).alloc (Nat.le_refl _) _).alloc (by simp only [World.size_alloc];omega) _;have ha:=hb3.trans (hx3.mono hb3.size);have hF4:=hF4.mono (base':=w.heap.size+1+1+1) (by obtain ⟨_,_,_,_,hx⟩:=hr1.2;have:=hx.lt;omega);have hr1:=hr1.call ha;have hBW3:=hBW2.trans (ha.mono hBW2.size);have hF2:=hF2.keep hW2 ha;have hW2:=hW2.below ha;have hF4:=hF4.keep hW4 hx3;have hW4:=hW4.below hx3;clear TD hb3 ha hx3 hB1 hB5 p2 p3 p4 p5 hW1 hBW2 hr3
 go_wp2_with fail
 generalize (w3.alloc (.cells #[.bool false,.slice A4 k4 c4] 40)).alloc (.cells #[.bool false,.slice A5 k5 c5] 40)=Wc at *;have s5:=Kp.refl Wc;have HW2:=Hj hW2;have HW4:=Hj (fun (w':World) (hk:Kp Wc w')=>hW4.below hk);have HF2:=Hj (fun (w':World) (hk:Kp Wc w')=>hF2.keep hW2 hk);have HF4:=Hj (fun (w':World) (hk:Kp Wc w')=>hF4.keep hW4 hk);have HR1:=Hj hr1;have HSB:=Hj hsb;clear hW2 hW4 hF2 hF4 hBW3 hr1 hB2 hsb hdp;by_cases h1:q.den=1
 ·have d1:(cmpN q.den 1 == 0)=true:=by rw [h1];decide
  have HQ:=Hj (show denW q.den=[] by unfold denW;rw [if_pos h1]);generalize cmpN q.den 1=cv at *;clear h1;have hS:∀ w',Kp Wc w'→(w'.cell? ⟨w3.heap.size,0,none⟩=some (.bool false)∧w'.cell? ⟨w3.heap.size,1,none⟩=some (.slice A4 k4 c4))∧Kp Wc w':=fun w' hk=>⟨⟨(hk.blk hB9).cell 0,(hk.blk hB9).cell 1⟩,hk⟩;have HS:=Hj hS;clear hS
  go_region_held3 (fun w'=>(w'.cell? ⟨w3.heap.size,0,none⟩=some (.bool false)∧w'.cell? ⟨w3.heap.size,1,none⟩=some (.slice A4 k4 c4))∧Kp Wc w')
   (with_reducible first|(refine HS.out _ ?_;assumption)|(refine HS.out _ (Kp.drew ?_);assumption)|(refine' HS.out _ (Kp.drew (And.right ?_));rotate_left;assumption))
   (first
    | (go_at_call 181;have hk:=And.right ‹_∧Kp Wc _›;refine (TO.out _).mono ?_;rintro e v6 ⟨A6,k6,c6,rfl,hk6,hW6,hF6,hb6⟩;have hp:=Kp.trans hk hb6;clear hk hb6 hk6 hF6)
    | (go_at_call 180;have hk:=And.right ‹_∧Kp Wc _›;refine (TC.out _ A4 A6 k4 c4 k6 c6 (HW4.out _ hk) hW6).mono ?_;rintro e v7 ⟨rfl,hb7⟩;have hp:=Kp.trans hk hb7;clear hk hb7 hW6))
  all_goals
   have hB6:=hp.blk hB6;obtain ⟨p0,p1,-,-⟩:=hB6.two;have hr3:=HR1.out.call hp;obtain ⟨_,_,_,_,f0,f1,f2,f3,f4,f5,f6,f7⟩:=hr3.four;have hfin:=retQ_close (q:=q) HBW0.out (by omega) (Nat.lt_succ_self _) hr3 hk2 (Nat.le_refl 0) (HW2.out.below hp) (A':=none) (by rw [HQ.out];exact Wat.nil) (HF2.out _ hp) Fresh.nil;rw [HSB.out] at hfin;obtain ⟨g0,g1,g2,g3,-,-,-,-⟩:=(hr3.done (.bool sb) (.slice A2 k2 c2) (.bool false) (.slice none 0 0)).four;have HF:=Hj hfin;clear hfin hp hB6 hB9 hr3;go_wp2;refine bodyPost_ret (v:=.agg #[.bool sb,.slice A2 k2 c2,.bool false,.slice none 0 0]) ?_ rfl HF.out;simp [results,Tryz.results128,go_sem,g0,g1,g2,g3]
 ·have d1:(cmpN q.den 1 == 0)=false:=by
   unfold cmpN;split
   ·decide
   ·split
    ·decide
    ·exfalso;omega
  have HQ:=Hj (show denW q.den=digs q.den by unfold denW;rw [if_neg h1]);generalize cmpN q.den 1=cv at *;clear h1;have hS:∀ w',Kp Wc w'→(w'.cell? ⟨w3.heap.size,0,none⟩=some (.bool false)∧w'.cell? ⟨w3.heap.size,1,none⟩=some (.slice A4 k4 c4))∧Kp Wc w':=fun w' hk=>⟨⟨(hk.blk hB9).cell 0,(hk.blk hB9).cell 1⟩,hk⟩;have HS:=Hj hS;clear hS
  go_region_held3 (fun w'=>(w'.cell? ⟨w3.heap.size,0,none⟩=some (.bool false)∧w'.cell? ⟨w3.heap.size,1,none⟩=some (.slice A4 k4 c4))∧Kp Wc w')
   (with_reducible first|(refine HS.out _ ?_;assumption)|(refine HS.out _ (Kp.drew ?_);assumption)|(refine' HS.out _ (Kp.drew (And.right ?_));rotate_left;assumption))
   (first
    | (go_at_call 181;have hk:=And.right ‹_∧Kp Wc _›;refine (TO.out _).mono ?_;rintro e v6 ⟨A6,k6,c6,rfl,hk6,hW6,hF6,hb6⟩;have hp:=Kp.trans hk hb6;clear hk hb6 hk6 hF6)
    | (go_at_call 180;have hk:=And.right ‹_∧Kp Wc _›;refine (TC.out _ A4 A6 k4 c4 k6 c6 (HW4.out _ hk) hW6).mono ?_;rintro e v7 ⟨rfl,hb7⟩;have hp:=Kp.trans hk hb7;clear hk hb7 hW6))
  all_goals
   have hB6:=hp.blk hB6;obtain ⟨p0,p1,-,-⟩:=hB6.two;have hB9:=hp.blk hB9;obtain ⟨p2,p3,-,-⟩:=hB9.two;have hr3:=HR1.out.call hp;obtain ⟨_,_,_,_,f0,f1,f2,f3,f4,f5,f6,f7⟩:=hr3.four;have hfin:=retQ_close (q:=q) HBW0.out (by omega) (Nat.lt_succ_self _) hr3 hk2 hk4 (HW2.out.below hp) (by rw [HQ.out];exact HW4.out _ hp) (HF2.out _ hp) (HF4.out _ hp);rw [HSB.out] at hfin;obtain ⟨g0,g1,g2,g3,-,-,-,-⟩:=(hr3.done (.bool sb) (.slice A2 k2 c2) (.bool false) (.slice A4 k4 c4)).four;have HF:=Hj hfin;clear hfin hp hB6 hB9 hr3;go_wp2;refine bodyPost_ret (v:=.agg #[.bool sb,.slice A2 k2 c2,.bool false,.slice A4 k4 c4]) ?_ rfl HF.out;simp [results,Tryz.results128,go_sem,g0,g1,g2,g3]
theorem RS4.lt {g:Nat} {t:TypeId} {W w:World} (h:RS4 g t W w):g<w.heap.size:=by
 obtain ⟨_,_,_,_,_,hx⟩:=h;exact hx.lt
theorem zk_ofN {w:World} {A:Option Addr} {n v:Nat} (h:Wat w A n (digs v)) (hl:(hd v).length≤6000000000):ZK w false A n (v:Int):=by
 have:=zk_of (z:=(v:Int)) (w:=w) (A:=A) (n:=n) (by rw [Int.natAbs_natCast];exact h) (by rw [Int.natAbs_natCast];exact hl)
 rwa [show decide ((v:Int)<0)=false by simp] at this
theorem pb_half {v k:Nat} (h:v<PB k) (hk:k≤18):(hd v).length≤6000000000:=by
 have h1:=half_len h;have:3 ^ k≤3 ^ 18:=Nat.pow_le_pow_right (by decide) hk;have h18:(3:Nat) ^ 18=387420489:=by decide
 omega
theorem QIn.qz {w:World} {an bn:Bool} {A B:Option Addr} {n c m d:Nat} {na da:Int} (h:QIn w an A n c bn B m d na da) (h1:(hd (qnum na da).natAbs).length≤6000000000) (h2:(hd (qden da).natAbs).length≤6000000000):QZ w an A n bn B m na da:=by
 obtain ⟨l,l',a1,a2,a3,a4,a5,a6,a7,a8⟩:=h;refine ⟨⟨l,a1,a5,a7,?_⟩,l',a2,a6,a8,?_⟩
 ·rwa [show (qnum na da).natAbs=na.natAbs by unfold qnum;split<;>omega] at h1
 ·by_cases h0:da=0
  ·subst h0;rw [show (0:Int).natAbs=0 from rfl,hd_zero];exact Nat.zero_le _
  ·rwa [show (qden da).natAbs=da.natAbs by unfold qden;rw [if_neg h0];split<;>omega] at h2
theorem QK.qz {k:Nat} {w:World} {an bn:Bool} {A B:Option Addr} {n c m d:Nat} {q:Rat} (h:QK k w an A n c bn B m d q) (hk:k≤18) :
  ∃ na da,QZ w an A n bn B m na da∧(qnum na da).natAbs<PB k∧(qden da).natAbs<PB k∧q=mkRat (qnum na da) (qden da).natAbs∧(qden da).natAbs≠0:=by
 obtain ⟨na,da,h1,h2,h3,h4⟩:=h;exact ⟨na,da,h1.qz (pb_half h2 hk) (pb_half h3 hk),h2,h3,h4,den_nz da⟩
theorem rleastq_k {k:Nat} (hk:k≤18) (an bn:Bool) (A B:Option Addr) (n c m d:Nat) (q:Rat) (w:World) (h:QK k w an A n c bn B m d q) :
  Calls Tryz.prog 76 #[.agg #[.bool an,.slice A n c,.bool bn,.slice B m d]] w (RetQ w q):=by
 obtain ⟨na,da,hQ,h1,h2,hq,h0⟩:=h.qz hk;have LEN4:=Hj (pb_half h1 hk);have LEN5:=Hj (pb_half h2 hk);clear h h1 h2;go_enter Tryz.func76,Tryz.ntmps76
 go_wp2_with fail
 obtain ⟨hB0,hB1,hBW,hsz⟩:=pre2 w 42 #[.bool an,.slice A n c,.bool bn,.slice B m d] 42 #[.bool false,.slice none 0 0,.bool false,.slice none 0 0];generalize (w.alloc (.cells #[.bool an,.slice A n c,.bool bn,.slice B m d] 42)).alloc (.cells #[.bool false,.slice none 0 0,.bool false,.slice none 0 0] 42)=W at *;have HSZ:=Hj hsz;clear hsz;have TN:=Hj (fun W' (hW:Below (w.heap.size+1) W W')=>rnum_z an bn A B n c m d na da W' (hQ.below (hBW.trans (hW.mono (by omega)))));have TD:=Hj (fun W' (hW:Below (w.heap.size+1) W W')=>rden_z an bn A B n c m d na da W' (hQ.below (hBW.trans (hW.mono (by omega)))));have TO:=Hj (fun W' (s:Bool) (C D:Option Addr) (j e j' e':Nat) (hC:ZK W' s C j (qnum na da)) (hD:ZK W' false D j' ((qden da).natAbs:Int))=>rover_z s C D j e j' e' (qnum na da) (qden da).natAbs W' hC hD h0);rw [← hq] at TO;generalize qnum na da=z1 at *;generalize (qden da).natAbs=v1 at *;have s5:=RS4.start hB1;clear hQ hq h0;have hS:∀ w',RS4 (w.heap.size+1) 42 W w'→(w'.cell? ⟨w.heap.size,0,none⟩=some (.bool an)∧w'.cell? ⟨w.heap.size,1,none⟩=some (.slice A n c)∧w'.cell? ⟨w.heap.size,2,none⟩=some (.bool bn)∧w'.cell? ⟨w.heap.size,3,none⟩=some (.slice B m d))∧RS4 (w.heap.size+1) 42 W w':=fun w' hk=>⟨⟨(hk.blk hB0 (by omega)).cell 0,(hk.blk hB0 (by omega)).cell 1,(hk.blk hB0 (by omega)).cell 2,(hk.blk hB0 (by omega)).cell 3⟩,hk⟩;have HS:=Hj hS;clear hS
 go_region_held3 (fun w'=>(w'.cell? ⟨w.heap.size,0,none⟩=some (.bool an)∧w'.cell? ⟨w.heap.size,1,none⟩=some (.slice A n c)∧w'.cell? ⟨w.heap.size,2,none⟩=some (.bool bn)∧w'.cell? ⟨w.heap.size,3,none⟩=some (.slice B m d))∧RS4 (w.heap.size+1) 42 W w')
  (with_reducible first|(refine HS.out _ ?_;assumption)|(refine HS.out _ (RS4.drew ?_);assumption)|(refine' HS.out _ (RS4.drew (And.right ?_));rotate_left;assumption)|(refine' HS.out _ (RS4.set (And.right ?_) _ _ _ _);rotate_left;assumption))
  (first
   | (go_at_call 129;have hk:=And.right ‹_∧RS4 (w.heap.size+1) 42 W _›;refine (TN.out _ hk.1).mono ?_;rintro e v4 ⟨A4,k4,c4,rfl,hk4,hW4,hF4,hb4⟩;have hZ4:=zk_of hW4 (LEN4.out);have hr:=hk.call hb4;(try have hZ5:=hZ5.below hb4);clear hk hb4 hW4 hF4 hk4)
   | (go_at_call 130;have hk:=And.right ‹_∧RS4 (w.heap.size+1) 42 W _›;refine (TD.out _ hk.1).mono ?_;rintro e v5 ⟨A5,k5,c5,rfl,hk5,hW5,hF5,hb5⟩;have hZ5:=zk_ofN hW5 (LEN5.out);have hr:=hk.call hb5;(try have hZ4:=hZ4.below hb5);clear hk hb5 hW5 hF5 hk5)
   | (go_at_call 128;have hk:=And.right ‹_∧RS4 (w.heap.size+1) 42 W _›;refine (TO.out _ _ _ _ _ _ _ _ hZ4 hZ5).mono ?_;rintro e v9 ⟨A9,k9,c9,A10,k10,c10,rfl,hk9,hk10,hW9,hW10,hF9,hF10,hb9⟩;have hl9:=RS4.lt hk;have hr9:=hk.call hb9;obtain ⟨_,_,_,_,f0,f1,f2,f3,f4,f5,f6,f7⟩:=hr9.four))
 all_goals
  have hfin:=retQ_close hBW (by omega) (by have:=HSZ.out;have h9:=hl9;omega) hr9 hk9 hk10 hW9 hW10 hF9 hF10;obtain ⟨d0,d1,d2,d3,-,-,-,-⟩:=(hr9.done (.bool (decide ((q).num<0))) (.slice A9 k9 c9) (.bool false) (.slice A10 k10 c10)).four;have HF:=Hj hfin;clear hfin hl9 hr9 TN TD TO hZ4 hZ5;go_wp2;refine bodyPost_ret (v:=.agg #[.bool (decide ((q).num<0)),.slice A9 k9 c9,.bool false,.slice A10 k10 c10]) ?_ rfl HF.out;simp [results,Tryz.results76,go_sem,d0,d1,d2,d3]
theorem rnegq_k {k:Nat} (hk:k≤18) (an bn:Bool) (A B:Option Addr) (n c m d:Nat) (q:Rat) (w:World) (h:QK k w an A n c bn B m d q) :
  Calls Tryz.prog 133 #[.agg #[.bool an,.slice A n c,.bool bn,.slice B m d]] w (RetQ w (-q)):=by
 obtain ⟨na,da,hQ,h1,h2,hq,h0⟩:=h.qz hk;have LEN4:=Hj (pb_half h1 hk);have LEN5:=Hj (pb_half h2 hk);have LEN6:=Hj (show (hd (-(qnum na da)).natAbs).length≤6000000000 by rw [Int.natAbs_neg];exact LEN4.out);have hq2 : -q=mkRat (-(qnum na da)) (qden da).natAbs:=by rw [hq];exact Rat.neg_mkRat _ _
 generalize -q=y at *;clear h h1 h2 hq;go_enter Tryz.func133,Tryz.ntmps133
 go_wp2_with fail
 obtain ⟨hB0,hB1,hBW,hsz⟩:=pre2 w 42 #[.bool an,.slice A n c,.bool bn,.slice B m d] 42 #[.bool false,.slice none 0 0,.bool false,.slice none 0 0];generalize (w.alloc (.cells #[.bool an,.slice A n c,.bool bn,.slice B m d] 42)).alloc (.cells #[.bool false,.slice none 0 0,.bool false,.slice none 0 0] 42)=W at *;have HSZ:=Hj hsz;clear hsz;have TN:=Hj (fun W' (hW:Below (w.heap.size+1) W W')=>rnum_z an bn A B n c m d na da W' (hQ.below (hBW.trans (hW.mono (by omega)))));have TD:=Hj (fun W' (hW:Below (w.heap.size+1) W W')=>rden_z an bn A B n c m d na da W' (hQ.below (hBW.trans (hW.mono (by omega)))));have TG:=Hj (fun W' (s:Bool) (C:Option Addr) (j e:Nat) (hC:ZK W' s C j (qnum na da))=>rneg_z s C j e (qnum na da) W' hC);have TO:=Hj (fun W' (s:Bool) (C D:Option Addr) (j e j' e':Nat) (hC:ZK W' s C j (-(qnum na da))) (hD:ZK W' false D j' ((qden da).natAbs:Int))=>rover_z s C D j e j' e' (-(qnum na da)) (qden da).natAbs W' hC hD h0);rw [← hq2] at TO;generalize -(qnum na da)=z2 at *;generalize qnum na da=z1 at *;generalize (qden da).natAbs=v1 at *;have s5:=RS4.start hB1;clear hQ hq2 h0;have hS:∀ w',RS4 (w.heap.size+1) 42 W w'→(w'.cell? ⟨w.heap.size,0,none⟩=some (.bool an)∧w'.cell? ⟨w.heap.size,1,none⟩=some (.slice A n c)∧w'.cell? ⟨w.heap.size,2,none⟩=some (.bool bn)∧w'.cell? ⟨w.heap.size,3,none⟩=some (.slice B m d))∧RS4 (w.heap.size+1) 42 W w':=fun w' hk=>⟨⟨(hk.blk hB0 (by omega)).cell 0,(hk.blk hB0 (by omega)).cell 1,(hk.blk hB0 (by omega)).cell 2,(hk.blk hB0 (by omega)).cell 3⟩,hk⟩;have HS:=Hj hS;clear hS
 go_region_held3 (fun w'=>(w'.cell? ⟨w.heap.size,0,none⟩=some (.bool an)∧w'.cell? ⟨w.heap.size,1,none⟩=some (.slice A n c)∧w'.cell? ⟨w.heap.size,2,none⟩=some (.bool bn)∧w'.cell? ⟨w.heap.size,3,none⟩=some (.slice B m d))∧RS4 (w.heap.size+1) 42 W w')
  (with_reducible first|(refine HS.out _ ?_;assumption)|(refine HS.out _ (RS4.drew ?_);assumption)|(refine' HS.out _ (RS4.drew (And.right ?_));rotate_left;assumption)|(refine' HS.out _ (RS4.set (And.right ?_) _ _ _ _);rotate_left;assumption))
  (first
   | (go_at_call 129;have hk:=And.right ‹_∧RS4 (w.heap.size+1) 42 W _›;refine (TN.out _ hk.1).mono ?_;rintro e v4 ⟨A4,k4,c4,rfl,hk4,hW4,hF4,hb4⟩;have hZ4:=zk_of hW4 (LEN4.out);have hr:=hk.call hb4;(try have hZ5:=hZ5.below hb4);(try have hZ6:=hZ6.below hb4);clear hk hb4 hW4 hF4 hk4)
   | (go_at_call 130;have hk:=And.right ‹_∧RS4 (w.heap.size+1) 42 W _›;refine (TD.out _ hk.1).mono ?_;rintro e v5 ⟨A5,k5,c5,rfl,hk5,hW5,hF5,hb5⟩;have hZ5:=zk_ofN hW5 (LEN5.out);have hr:=hk.call hb5;(try have hZ4:=hZ4.below hb5);(try have hZ6:=hZ6.below hb5);clear hk hb5 hW5 hF5 hk5)
   | (go_at_call 182;have hk:=And.right ‹_∧RS4 (w.heap.size+1) 42 W _›;refine (TG.out _ _ _ _ _ hZ4).mono ?_;rintro e v6 ⟨A6,k6,c6,rfl,hk6,hW6,hF6,hb6⟩;have hZ6:=zk_of hW6 (LEN6.out);have hr:=hk.call hb6;(try have hZ5:=hZ5.below hb6);clear hk hb6 hW6 hF6 hk6)
   | (go_at_call 128;have hk:=And.right ‹_∧RS4 (w.heap.size+1) 42 W _›;refine (TO.out _ _ _ _ _ _ _ _ hZ6 hZ5).mono ?_;rintro e v9 ⟨A9,k9,c9,A10,k10,c10,rfl,hk9,hk10,hW9,hW10,hF9,hF10,hb9⟩;have hl9:=RS4.lt hk;have hr9:=hk.call hb9;obtain ⟨_,_,_,_,f0,f1,f2,f3,f4,f5,f6,f7⟩:=hr9.four))
 all_goals
  have hfin:=retQ_close hBW (by omega) (by have:=HSZ.out;have h9:=hl9;omega) hr9 hk9 hk10 hW9 hW10 hF9 hF10;obtain ⟨d0,d1,d2,d3,-,-,-,-⟩:=(hr9.done (.bool (decide ((y).num<0))) (.slice A9 k9 c9) (.bool false) (.slice A10 k10 c10)).four;have HF:=Hj hfin;clear hfin hl9 hr9 TN TD TO TG hZ5 hZ6;go_wp2;refine bodyPost_ret (v:=.agg #[.bool (decide ((y).num<0)),.slice A9 k9 c9,.bool false,.slice A10 k10 c10]) ?_ rfl HF.out;simp [results,Tryz.results133,go_sem,d0,d1,d2,d3]
theorem rsignq_k {k:Nat} (hk:k≤18) (an bn:Bool) (A B:Option Addr) (n c m d:Nat) (q:Rat) (w:World) (h:QK k w an A n c bn B m d q) :
  Calls Tryz.prog 116 #[.agg #[.bool an,.slice A n c,.bool bn,.slice B m d]] w fun e w'=>e=.returned (.int .i64 (sgnQ q))∧Below w.heap.size w w':=by
 obtain ⟨na,da,hQ,h1,h2,hq,h0⟩:=h.qz hk;have hs:sgnQ q=cmpI (qnum na da) 0:=by rw [hq];exact sgn_mk _ _ (qden_pos da)
 have LEN4:=Hj (pb_half h1 hk);have HS:=Hj hs;clear h h1 h2 hs hq;go_enter Tryz.func116,Tryz.ntmps116
 go_wp2_with fail
 obtain ⟨hB0,hBW,hsz⟩:=pre1 w 42 #[.bool an,.slice A n c,.bool bn,.slice B m d];generalize w.alloc (.cells #[.bool an,.slice A n c,.bool bn,.slice B m d] 42)=W at *;have HSZ:=Hj hsz;clear hsz;have TN:=Hj (rnum_z an bn A B n c m d na da W (hQ.below hBW));obtain ⟨p0,p1,p2,p3,-,-,-,-⟩:=hB0.four;generalize qnum na da=z1 at *;clear hQ h0 hB0
 go_wp2_with fail
 refine TN.out.mono ?_;rintro e w1 ⟨A3,k3,c3,rfl,hk3,hW3,hF3,hb3⟩;have T:=Hj (rsign_z (decide (z1<0)) A3 k3 c3 z1 w1 (zk_of hW3 LEN4.out));have HB:=Hj (hBW.trans (hb3.mono hBW.size));generalize decide (z1<0)=s1 at *;clear hW3 hF3 hb3 TN hBW
 go_wp2_with fail
 refine T.out.mono ?_;rintro e w2 ⟨rfl,hb2⟩;have HF:=Hj (HB.out.trans (hb2.mono HB.out.size));clear hb2 T;go_wp2;go_ret;exact ⟨by rw [HS.out];rfl,HF.out⟩
end Go.Proofs.YtjajigkacccdgaaGreat
