/-
Lemmas of the walk; no further conditions.
-/
import Derived.Test.YtjajigkacccdgaaGreatTiAY
set_option linter.unusedVariables false
set_option linter.unusedSimpArgs false
set_option maxRecDepth 100000
set_option maxHeartbeats 16000000
namespace Go.Proofs.YtjajigkacccdgaaGreat
open Go.RowKit
open Wd
theorem RS.lt {g:Nat} {t:TypeId} {W w:World} (h:RS g t W w):g<w.heap.size:=by
 obtain ⟨_,_,_,hx⟩:=h;exact hx.lt
theorem rmul_z (an bn:Bool) (A B:Option Addr) (n c m d:Nat) (za zb:Int) (w:World) (h:ZK w an A n za) (h':ZK w bn B m zb) :
  Calls Tryz.prog 131 #[.agg #[.bool an,.slice A n c],.agg #[.bool bn,.slice B m d]] w (RetZ w (za*zb)):=by
 have hla:=h.len;have hlb:=h'.len;have TM:=Hj (fun (W:World) (A1:Option Addr) (n1 c1:Nat) (A2:Option Addr) (n2 c2:Nat) (h1:HA W A1 n1 c1 za.natAbs) (h2:HA W A2 n2 c2 zb.natAbs)=>mul_ra A1 A2 n1 c1 n2 c2 za.natAbs zb.natAbs W h1.ra h2.ra (by rw [h1.1];omega) (by rw [h2.1];omega));have hlm:(hd (za.natAbs*zb.natAbs)).length≤12000000000:=by
  have h1:=(hd_len_le (n:=za.natAbs)).1 (Nat.le_refl _);have h2:=(hd_len_le (n:=zb.natAbs)).1 (Nat.le_refl _);have h3:=Nat.mul_lt_mul'' h1 h2;rw [← Nat.pow_add] at h3;have:=hd_len_le.2 h3;omega
 have TO:=Hj (fun (W:World) (A1:Option Addr) (n1 c1:Nat) (h1:HA W A1 n1 c1 (za.natAbs*zb.natAbs))=>of_any (an != bn) A1 n1 c1 (za.natAbs*zb.natAbs) W h1.ra (by rw [h1.1];omega));rw [show sg (an != bn) (za.natAbs*zb.natAbs)=za*zb by rw [sg_mul,h.sg,h'.sg]] at TO;generalize za*zb=y at *;go_enter Tryz.func131,Tryz.ntmps131
 go_wp2_with fail
 obtain ⟨hB0,hB1,hB2,hBW,hsz⟩:=pre3 w 40 #[.bool an,.slice A n c] 40 #[.bool bn,.slice B m d] 40 #[.bool false,.slice none 0 0];generalize ((w.alloc (.cells #[.bool an,.slice A n c] 40)).alloc (.cells #[.bool bn,.slice B m d] 40)).alloc (.cells #[.bool false,.slice none 0 0] 40)=W at *;have HSZ:=Hj hsz;clear hsz;have TA:=Hj (fun W' (hW:Below (w.heap.size+1+1) W W')=>ZK.halves (c:=c) (h.below (hBW.trans (hW.mono (by omega)))));have TB:=Hj (fun W' (hW:Below (w.heap.size+1+1) W W')=>ZK.halves (c:=d) (h'.below (hBW.trans (hW.mono (by omega)))));have s5:=RS.start hB2;generalize za.natAbs=a at *;generalize zb.natAbs=b at *;clear h h' hla hlb hlm;have hS:∀ w',RS (w.heap.size+1+1) 40 W w'→(w'.cell? ⟨w.heap.size,0,none⟩=some (.bool an)∧w'.cell? ⟨w.heap.size,1,none⟩=some (.slice A n c)∧w'.cell? ⟨w.heap.size+1,0,none⟩=some (.bool bn)∧w'.cell? ⟨w.heap.size+1,1,none⟩=some (.slice B m d))∧RS (w.heap.size+1+1) 40 W w':=fun w' hk=>⟨⟨(hk.blk hB0 (by omega)).cell 0,(hk.blk hB0 (by omega)).cell 1,(hk.blk hB1 (by omega)).cell 0,(hk.blk hB1 (by omega)).cell 1⟩,hk⟩;have HS:=Hj hS;clear hS
 go_region_held3 (fun w'=>(w'.cell? ⟨w.heap.size,0,none⟩=some (.bool an)∧w'.cell? ⟨w.heap.size,1,none⟩=some (.slice A n c)∧w'.cell? ⟨w.heap.size+1,0,none⟩=some (.bool bn)∧w'.cell? ⟨w.heap.size+1,1,none⟩=some (.slice B m d))∧RS (w.heap.size+1+1) 40 W w')
  (with_reducible first|(refine HS.out _ ?_;assumption)|(refine HS.out _ (RS.drew ?_);assumption)|(refine' HS.out _ (RS.drew (And.right ?_));rotate_left;assumption)|(refine' HS.out _ (RS.set (And.right ?_) _ _);rotate_left;assumption))
  (first
   | (go_at_call_of 186 (Value.slice A n c);have hk:=And.right ‹_∧RS (w.heap.size+1+1) 40 W _›;refine (TA.out _ hk.1).mono ?_;rintro e v4 ⟨A4,n4,c4,rfl,hI4,hb4⟩;have hp:=hk.call hb4;(try have hI5:=hI5.below hb4);clear hk hb4)
   | (go_at_call_of 186 (Value.slice B m d);have hk:=And.right ‹_∧RS (w.heap.size+1+1) 40 W _›;refine (TB.out _ hk.1).mono ?_;rintro e v5 ⟨A5,n5,c5,rfl,hI5,hb5⟩;have hp:=hk.call hb5;(try have hI4:=hI4.below hb5);clear hk hb5)
   | (go_at_call 185;have hk:=And.right ‹_∧RS (w.heap.size+1+1) 40 W _›;refine (TM.out _ _ _ _ _ _ _ hI4 hI5).mono ?_;rintro e v6 ⟨A6,n6,c6,rfl,hI6,hb6⟩;have hp:=hk.call hb6;clear hk hb6)
   | (go_at_call 184;have hk:=And.right ‹_∧RS (w.heap.size+1+1) 40 W _›;have hl9:=RS.lt hk;refine (TO.out _ _ _ _ hI6).mono ?_;rintro e v9 ⟨A9,k9,c9,rfl,hk9,hW9,hF9,hb9⟩;have hr9:=hk.call hb9;obtain ⟨_,_,p0,p1,f0,f1⟩:=hr9.two;clear hk))
 all_goals
  have hfin:=retZ_close hBW (by omega) (by have:=HSZ.out;have h9:=hl9;omega) hr9 hk9 hW9 hF9;obtain ⟨d0,d1,-,-⟩:=(hr9.done (.bool (decide (y<0))) (.slice A9 k9 c9)).two;have HF:=Hj hfin;clear hfin hl9 hr9 TA TB TM TO;go_wp2;refine bodyPost_ret (v:=.agg #[.bool (decide (y<0)),.slice A9 k9 c9]) ?_ rfl HF.out;simp [results,Tryz.results131,go_sem,d0,d1]
theorem pow_sum {a b K:Nat} (h1:a<65536 ^ K) (h2:b<65536 ^ K):(hd (a+b)).length≤K+1:=by
 rw [hd_len_le,Nat.pow_succ];omega
theorem sg_same (s:Bool) (a b:Nat):sg s (a+b)=sg s a+sg s b:=by unfold sg;cases s<;>simp;omega
theorem sg_diff {s t:Bool} {a b:Nat} (hst:s≠t) (h:b≤a):sg s (a-b)=sg s a+sg t b:=by unfold sg;cases s<;>cases t<;>simp at *<;>omega
theorem sg_diff2 {s t:Bool} {a b:Nat} (hst:s≠t) (h:a≤b):sg t (b-a)=sg s a+sg t b:=by unfold sg;cases s<;>cases t<;>simp at *<;>omega
theorem radd_z (an bn:Bool) (A B:Option Addr) (n c m d:Nat) (za zb:Int) (w:World) (h:ZK w an A n za) (h':ZK w bn B m zb) :
  Calls Tryz.prog 132 #[.agg #[.bool an,.slice A n c],.agg #[.bool bn,.slice B m d]] w (RetZ w (za+zb)):=by
 have HL:=Hj (And.intro h.len h'.len);obtain ⟨y,hy⟩:∃ y,y=za+zb:=⟨_,rfl⟩;have hy2:y=sg an za.natAbs+sg bn zb.natAbs:=by rw [hy,h.sg,h'.sg]
 have HY:=Hj hy2;rw [← hy];go_enter Tryz.func132,Tryz.ntmps132
 go_wp2_with fail
 obtain ⟨hB0,hB1,hB2,hBW,hsz⟩:=pre3 w 40 #[.bool an,.slice A n c] 40 #[.bool bn,.slice B m d] 40 #[.bool false,.slice none 0 0];generalize ((w.alloc (.cells #[.bool an,.slice A n c] 40)).alloc (.cells #[.bool bn,.slice B m d] 40)).alloc (.cells #[.bool false,.slice none 0 0] 40)=W at *;have HSZ:=Hj hsz;clear hsz;have TA:=Hj (h.ta (c:=c) hBW);have TB:=Hj (h'.ta (c:=d) hBW);generalize za.natAbs=a at *;generalize zb.natAbs=b at *;clear h h' hy hy2
 go_upto_region 1 with fail
 have hS:∀ w',Kp W w'→(w'.cell? ⟨w.heap.size,1,none⟩=some (.slice A n c)∧w'.cell? ⟨w.heap.size+1,1,none⟩=some (.slice B m d))∧Kp W w':=fun w' hk=>⟨⟨(hk.blk hB0).cell 1,(hk.blk hB1).cell 1⟩,hk⟩;have HS:=Hj hS;have s5:=Kp.refl W;clear hS
 go_cut [5,6] (fun s t wx=>∃ A1 n1 c1 A2 n2 c2,s=.slice A1 n1 c1∧t=.slice A2 n2 c2∧Hid (Kp W wx∧HA wx A1 n1 c1 a∧HA wx A2 n2 c2 b))
 case first =>
  go_region_held3 (fun w'=>(w'.cell? ⟨w.heap.size,1,none⟩=some (.slice A n c)∧w'.cell? ⟨w.heap.size+1,1,none⟩=some (.slice B m d))∧Kp W w')
   (with_reducible first|(refine HS.out _ ?_;assumption)|(refine HS.out _ (Kp.drew ?_);assumption)|(refine' HS.out _ (Kp.drew (And.right ?_));rotate_left;assumption))
   (first
    | (go_at_call_of 186 (Value.slice A n c);have hk:=And.right ‹_∧Kp W _›;refine (TA.out _ hk).mono ?_;rintro e v4 ⟨A4,n4,c4,rfl,hI4,hb4⟩;have hp4:=Kp.trans hk hb4;(try have hI5:=hI5.below hb4);clear hk)
    | (go_at_call_of 186 (Value.slice B m d);have hk:=And.right ‹_∧Kp W _›;refine (TB.out _ hk).mono ?_;rintro e v5 ⟨A5,n5,c5,rfl,hI5,hb5⟩;have hp5:=Kp.trans hk hb5;(try have hI4:=hI4.below hb5);clear hk))
  all_goals
   (try go_wp2_with fail)
   go_meet
   first
    | exact ⟨A4,n4,c4,A5,n5,c5,rfl,rfl,Hj ⟨hp5,hI4,hI5⟩⟩
    | exact ⟨A4,n4,c4,A5,n5,c5,rfl,rfl,Hj ⟨hp4,hI4,hI5⟩⟩
 case rest =>
  obtain ⟨A1,n1,c1,A2,n2,c2,rfl,rfl,HV⟩:=hcut;generalize wc=V at *;have s5:=(RS.start hB2).call HV.out.1;have HX1:=Hj HV.out.2.1;have HX2:=Hj HV.out.2.2;have hl1:n1≤6000000000:=by rw [HX1.out.1];exact HL.out.1
  have hl2:n2≤6000000000:=by rw [HX2.out.1];exact HL.out.2
  have hC0:=Kp.blk HV.out.1 hB0;have hC1:=Kp.blk HV.out.1 hB1;obtain ⟨p0,p1,-,-⟩:=hC0.two;obtain ⟨p2,p3,-,-⟩:=hC1.two;clear TA TB HS HV hC0 hC1 hB2;by_cases hs:an=bn
  ·subst hs;have TX:=Hj (fun (W:World) (h1:HA W A1 n1 c1 a) (h2:HA W A2 n2 c2 b)=>add_ra A1 A2 n1 c1 n2 c2 a b W h1.ra h2.ra (by omega) (by omega));have hlm:(hd (a+b)).length≤1000000000000:=by
    have h1:=(hd_len_le (n:=a)).1 (Nat.le_refl _);have h2:=(hd_len_le (n:=b)).1 (Nat.le_refl _);have h3:=Nat.lt_of_lt_of_le h1 (Nat.pow_le_pow_right (by decide:0<65536) HL.out.1);have h4:=Nat.lt_of_lt_of_le h2 (Nat.pow_le_pow_right (by decide:0<65536) HL.out.2);exact Nat.le_trans (pow_sum h3 h4) (by decide)
   have TO:=Hj (fun (W:World) (A3:Option Addr) (n3 c3:Nat) (h3:HA W A3 n3 c3 (a+b))=>of_any an A3 n3 c3 (a+b) W h3.ra (by rw [h3.1];exact hlm));rw [sg_same,← HY.out] at TO;clear hlm
   go_wp2_with fail
   have hS:∀ w',RS (w.heap.size+1+1) 40 W w'→(w'.cell? ⟨w.heap.size,0,none⟩=some (.bool an))∧RS (w.heap.size+1+1) 40 W w':=fun w' hk=>⟨(hk.blk hB0 (by omega)).cell 0,hk⟩;have HS2:=Hj hS;clear hS
   go_region_held3 (fun w'=>(w'.cell? ⟨w.heap.size,0,none⟩=some (.bool an))∧RS (w.heap.size+1+1) 40 W w')
    (with_reducible first|(refine HS2.out _ ?_;assumption)|(refine HS2.out _ (RS.drew ?_);assumption)|(refine' HS2.out _ (RS.drew (And.right ?_));rotate_left;assumption)|(refine' HS2.out _ (RS.set (And.right ?_) _ _);rotate_left;assumption))
    (first
     | (go_at_call 187;have hk:=And.right ‹_∧RS (w.heap.size+1+1) 40 W _›;refine (TX.out _ (by exact HX1.out) (by exact HX2.out)).mono ?_;rintro e v6 ⟨A6,n6,c6,rfl,hI6,hb6⟩;have hp:=hk.call hb6;clear hk hb6)
     | (go_at_call 184;have hk:=And.right ‹_∧RS (w.heap.size+1+1) 40 W _›;have hl9:=RS.lt hk;refine (TO.out _ _ _ _ hI6).mono ?_;rintro e v9 ⟨A9,k9,c9,rfl,hk9,hW9,hF9,hb9⟩;have hr9:=hk.call hb9;obtain ⟨_,_,p0,p1,f0,f1⟩:=hr9.two;clear hk))
   all_goals
    have hfin:=retZ_close hBW (by omega) (by have:=HSZ.out;have h9:=hl9;omega) hr9 hk9 hW9 hF9;obtain ⟨d0,d1,-,-⟩:=(hr9.done (.bool (decide (y<0))) (.slice A9 k9 c9)).two;have HF:=Hj hfin;clear hfin hl9 hr9 TO TX;go_wp2;refine bodyPost_ret (v:=.agg #[.bool (decide (y<0)),.slice A9 k9 c9]) ?_ rfl HF.out;simp [results,Tryz.results132,go_sem,d0,d1]
  ·have TC:=Hj (fun (W:World) (h1:HA W A1 n1 c1 a) (h2:HA W A2 n2 c2 b)=>cmp_ra A1 A2 n1 c1 n2 c2 a b W h1.ra h2.ra (by omega) (by omega));have d1:(an == bn)=false:=by simpa using hs
   have d1':decide (an=bn)=false:=by simpa using hs
   by_cases hab:b≤a
   ·have d2:decide (0≤cmpN a b)=true:=decide_eq_true (by unfold cmpN;split<;>(try split)<;>omega);have TX:=Hj (fun (W:World) (h1:HA W A1 n1 c1 a) (h2:HA W A2 n2 c2 b)=>(sub_ra A1 A2 n1 c1 n2 c2 a b W h1.ra h2.ra (by omega) hab).mono fun _ _ h=>RetF.h h);have TO:=Hj (fun (W:World) (A3:Option Addr) (n3 c3:Nat) (h3:HA W A3 n3 c3 (a-b))=>of_any an A3 n3 c3 (a-b) W h3.ra (by rw [h3.1];have:=hd_len_mono (Nat.sub_le a b);have:=HL.out.1;omega));rw [sg_diff hs hab,← HY.out] at TO;generalize cmpN a b=cv at *;clear hs hab
    go_wp2_with fail
    refine (TC.out _ HX1.out HX2.out).mono ?_;rintro e v8 ⟨rfl,hv8⟩;rw [hv8];clear hv8 TC
    go_wp2_with fail
    have hS:∀ w',RS (w.heap.size+1+1) 40 W w'→(w'.cell? ⟨w.heap.size,0,none⟩=some (.bool an))∧RS (w.heap.size+1+1) 40 W w':=fun w' hk=>⟨(hk.blk hB0 (by omega)).cell 0,hk⟩;have HS2:=Hj hS;clear hS
    go_region_held3 (fun w'=>(w'.cell? ⟨w.heap.size,0,none⟩=some (.bool an))∧RS (w.heap.size+1+1) 40 W w')
     (with_reducible first|(refine HS2.out _ ?_;assumption)|(refine HS2.out _ (RS.drew ?_);assumption)|(refine' HS2.out _ (RS.drew (And.right ?_));rotate_left;assumption)|(refine' HS2.out _ (RS.set (And.right ?_) _ _);rotate_left;assumption))
     (first
      | (go_at_call 189;have hk:=And.right ‹_∧RS (w.heap.size+1+1) 40 W _›;refine (TX.out _ (by exact HX1.out) (by exact HX2.out)).mono ?_;rintro e v6 ⟨A6,n6,c6,rfl,hI6,hb6⟩;have hp:=hk.call hb6;clear hk hb6)
      | (go_at_call 184;have hk:=And.right ‹_∧RS (w.heap.size+1+1) 40 W _›;have hl9:=RS.lt hk;refine (TO.out _ _ _ _ hI6).mono ?_;rintro e v9 ⟨A9,k9,c9,rfl,hk9,hW9,hF9,hb9⟩;have hr9:=hk.call hb9;obtain ⟨_,_,p0,p1,f0,f1⟩:=hr9.two;clear hk))
    all_goals
     have hfin:=retZ_close hBW (by omega) (by have:=HSZ.out;have h9:=hl9;omega) hr9 hk9 hW9 hF9;obtain ⟨d0,d1,-,-⟩:=(hr9.done (.bool (decide (y<0))) (.slice A9 k9 c9)).two;have HF:=Hj hfin;clear hfin hl9 hr9 TO TX;go_wp2;refine bodyPost_ret (v:=.agg #[.bool (decide (y<0)),.slice A9 k9 c9]) ?_ rfl HF.out;simp [results,Tryz.results132,go_sem,d0,d1]
   ·have d2:decide (0≤cmpN a b)=false:=decide_eq_false (by rw [cmp_lt (by omega)];decide);have TX:=Hj (fun (W:World) (h1:HA W A1 n1 c1 a) (h2:HA W A2 n2 c2 b)=>(sub_ra A2 A1 n2 c2 n1 c1 b a W h2.ra h1.ra (by omega) (by omega)).mono fun _ _ h=>RetF.h h);have TO:=Hj (fun (W:World) (A3:Option Addr) (n3 c3:Nat) (h3:HA W A3 n3 c3 (b-a))=>of_any bn A3 n3 c3 (b-a) W h3.ra (by rw [h3.1];have:=hd_len_mono (Nat.sub_le b a);have:=HL.out.2;omega));rw [sg_diff2 hs (by omega),← HY.out] at TO;generalize cmpN a b=cv at *;clear hs hab
    go_wp2_with fail
    refine (TC.out _ HX1.out HX2.out).mono ?_;rintro e v8 ⟨rfl,hv8⟩;rw [hv8];clear hv8 TC
    go_wp2_with fail
    have hS:∀ w',RS (w.heap.size+1+1) 40 W w'→(w'.cell? ⟨w.heap.size+1,0,none⟩=some (.bool bn))∧RS (w.heap.size+1+1) 40 W w':=fun w' hk=>⟨(hk.blk hB1 (by omega)).cell 0,hk⟩;have HS2:=Hj hS;clear hS
    go_region_held3 (fun w'=>(w'.cell? ⟨w.heap.size+1,0,none⟩=some (.bool bn))∧RS (w.heap.size+1+1) 40 W w')
     (with_reducible first|(refine HS2.out _ ?_;assumption)|(refine HS2.out _ (RS.drew ?_);assumption)|(refine' HS2.out _ (RS.drew (And.right ?_));rotate_left;assumption)|(refine' HS2.out _ (RS.set (And.right ?_) _ _);rotate_left;assumption))
     (first
      | (go_at_call 189;have hk:=And.right ‹_∧RS (w.heap.size+1+1) 40 W _›;refine (TX.out _ (by exact HX1.out) (by exact HX2.out)).mono ?_;rintro e v6 ⟨A6,n6,c6,rfl,hI6,hb6⟩;have hp:=hk.call hb6;clear hk hb6)
      | (go_at_call 184;have hk:=And.right ‹_∧RS (w.heap.size+1+1) 40 W _›;have hl9:=RS.lt hk;refine (TO.out _ _ _ _ hI6).mono ?_;rintro e v9 ⟨A9,k9,c9,rfl,hk9,hW9,hF9,hb9⟩;have hr9:=hk.call hb9;obtain ⟨_,_,p0,p1,f0,f1⟩:=hr9.two;clear hk))
    all_goals
     have hfin:=retZ_close hBW (by omega) (by have:=HSZ.out;have h9:=hl9;omega) hr9 hk9 hW9 hF9;obtain ⟨d0,d1,-,-⟩:=(hr9.done (.bool (decide (y<0))) (.slice A9 k9 c9)).two;have HF:=Hj hfin;clear hfin hl9 hr9 TO TX;go_wp2;refine bodyPost_ret (v:=.agg #[.bool (decide (y<0)),.slice A9 k9 c9]) ?_ rfl HF.out;simp [results,Tryz.results132,go_sem,d0,d1]
def WB (s:Nat):Nat:=4294967296 ^ s
theorem wb_mono {a b:Nat} (h:a≤b):WB a≤WB b:=Nat.pow_le_pow_right (by decide) h
theorem wb_add (s t:Nat):WB s*WB t=WB (s+t):=(Nat.pow_add _ _ _).symm
theorem wb_mul (s t:Nat):2*(WB s*WB t)≤WB (s+t+1):=by
 rw [wb_add];unfold WB;rw [Nat.pow_succ,Nat.mul_comm];exact Nat.mul_le_mul_left _ (by decide)
theorem wb_ok {s:Nat} (h:s≤10000000000):WOK (WB s):=wok_words s h
theorem wb_half {v s:Nat} (h:v<WB s) (hs:s≤3000000000):(hd v).length≤6000000000:=by
 have h1:=half_len h;omega
theorem wb_three:18446744073709551616<WB 3:=by decide
def Ls (s:Nat) (q:Rat):Prop:=q.num.natAbs<WB s∧q.den<WB s
theorem Ls.mono {a b:Nat} {q:Rat} (h:Ls a q) (hab:a≤b):Ls b q:=⟨Nat.lt_of_lt_of_le h.1 (wb_mono hab),Nat.lt_of_lt_of_le h.2 (wb_mono hab)⟩
theorem ls_int {s:Nat} (hs:3≤s) {z:Int} (h:z.natAbs≤18446744073709551616):Ls s (z:Rat):=by
 refine Ls.mono (a:=3) ⟨?_,?_⟩ hs
 ·rw [Rat.num_intCast];exact Nat.lt_of_le_of_lt h wb_three
 ·rw [Rat.den_intCast];exact Nat.lt_trans (by decide) wb_three
section
variable {s t:Nat} {a b:Rat}
theorem Ls.dd (ha:Ls s a) (hb:Ls t b):((a.den:Int)*(b.den:Int)).natAbs≠0∧((a.den:Int)*(b.den:Int)).natAbs<WB (s+t+1):=by
 rw [Int.natAbs_mul,Int.natAbs_natCast,Int.natAbs_natCast];refine ⟨Nat.mul_ne_zero a.den_nz b.den_nz,?_⟩;have:=wb_mul s t;have:=Nat.mul_lt_mul'' ha.2 hb.2;omega
theorem Ls.sub (ha:Ls s a) (hb:Ls t b):Ls (s+t+1) (a-b):=by
 obtain ⟨h0,h1⟩:=ha.dd hb;rw [Lv.self a,Lv.self b,rat_sub _ _ _ _ (by have:=a.den_pos;omega) (by have:=b.den_pos;omega)];refine lv_mk h0 ?_ h1;have e1:=bound_mul2 (a:=a.num) (b:=(b.den:Int)) ha.1 (by rw [Int.natAbs_natCast];exact hb.2) (wb_mul s t);have e2:=bound_mul2 (a:=b.num) (b:=(a.den:Int)) hb.1 (by rw [Int.natAbs_natCast];exact ha.2) (wb_mul t s);rw [Nat.add_comm t s] at e2;omega
theorem Ls.add (ha:Ls s a) (hb:Ls t b):Ls (s+t+1) (a+b):=by
 obtain ⟨h0,h1⟩:=ha.dd hb;rw [Lv.self a,Lv.self b,rat_add _ _ _ _ (by have:=a.den_pos;omega) (by have:=b.den_pos;omega)];refine lv_mk h0 ?_ h1;have e1:=bound_mul2 (a:=a.num) (b:=(b.den:Int)) ha.1 (by rw [Int.natAbs_natCast];exact hb.2) (wb_mul s t);have e2:=bound_mul2 (a:=b.num) (b:=(a.den:Int)) hb.1 (by rw [Int.natAbs_natCast];exact ha.2) (wb_mul t s);rw [Nat.add_comm t s] at e2;omega
theorem Ls.mul (ha:Ls s a) (hb:Ls t b):Ls (s+t+1) (a*b):=by
 obtain ⟨h0,h1⟩:=ha.dd hb;rw [Lv.self a,Lv.self b,rat_mul];refine lv_mk h0 ?_ h1;have e1:=bound_mul2 ha.1 hb.1 (wb_mul s t);omega
end
def QS (s:Nat) (w:World) (neg:Bool) (A:Option Addr) (n c:Nat) (neg':Bool) (A':Option Addr) (n' c':Nat) (q:Rat):Prop:=QAt (WB s) (WB s) w neg A n c neg' A' n' c' q
section
variable {k j s t:Nat} {w w':World} {an an' bn bn':Bool} {aA aA' bA bA':Option Addr} {ak ac ak' ac' bk bc bk' bc':Nat} {q qa qb:Rat}
theorem QS.below (h:QS s w an aA ak ac an' aA' ak' ac' q) (hb:Below w.heap.size w w'):QS s w' an aA ak ac an' aA' ak' ac' q:=QAt.below h hb
theorem QS.mono (h:QS s w an aA ak ac an' aA' ak' ac' q) (hst:s≤t):QS t w an aA ak ac an' aA' ak' ac' q:=by
 obtain ⟨na,da,h1,h2,h3,h4⟩:=h;exact ⟨na,da,h1,Nat.lt_of_lt_of_le h2 (wb_mono hst),Nat.lt_of_lt_of_le h3 (wb_mono hst),h4⟩
theorem QS.ls (h:QS s w an aA ak ac an' aA' ak' ac' q):Ls s q:=by
 obtain ⟨na,da,h1,h2,h3,rfl⟩:=h;exact lv_mk (den_nz da) h2 h3
theorem RQ.qs {A A':Option Addr} {k c k' c':Nat} (h:RQ w q A k c A' k' c') (hq:Ls s q) (hs:s≤10000000000):QS s w (decide (q.num<0)) A k c false A' k' c' q:=by
 have hl:∀ n,n<WB s→(digs n).length≤10000000000:=fun n hn=>Nat.le_trans (digs_len_le.2 hn) hs;refine qat_canon h.1 h.2.1 h.2.2.1 h.2.2.2 ?_ ?_ hq.1 hq.2
 ·rw [← h.2.2.1.1];exact hl _ hq.1
 ·rw [← h.2.2.2.1];unfold denW;split
  ·simp
  ·exact hl _ hq.2
theorem sub_s (hs:s≤1000000000) (ha:QS s w an aA ak ac an' aA' ak' ac' qa) (hb:QS s w bn bA bk bc bn' bA' bk' bc' qb) :
  Calls Tryz.prog 55 #[.agg #[.bool an,.slice aA ak ac,.bool an',.slice aA' ak' ac'],.agg #[.bool bn,.slice bA bk bc,.bool bn',.slice bA' bk' bc']] w (RetQ w (qa-qb)) :=
 qsub_any (WB (s+s+1)) (WB s) (WB s) (wb_ok (by omega)) (wb_mul s s) (by have:=wb_mul s s;omega) _ _ _ _ _ _ _ _ _ _ _ _ _ _ _ _ _ _ _ ha hb
theorem add_s (hs:s≤1000000000) (ha:QS s w an aA ak ac an' aA' ak' ac' qa) (hb:QS s w bn bA bk bc bn' bA' bk' bc' qb) :
  Calls Tryz.prog 42 #[.agg #[.bool an,.slice aA ak ac,.bool an',.slice aA' ak' ac'],.agg #[.bool bn,.slice bA bk bc,.bool bn',.slice bA' bk' bc']] w (RetQ w (qa+qb)) :=
 qadd_any (WB (s+s+1)) (WB s) (WB s) (wb_ok (by omega)) (wb_mul s s) (by have:=wb_mul s s;omega) _ _ _ _ _ _ _ _ _ _ _ _ _ _ _ _ _ _ _ ha hb
theorem min_s (hs:s≤10000000000) (ha:QS s w an aA ak ac an' aA' ak' ac' qa) (hb:QS s w bn bA bk bc bn' bA' bk' bc' qb) :
  Calls Tryz.prog 85 #[.agg #[.bool an,.slice aA ak ac,.bool an',.slice aA' ak' ac'],.agg #[.bool bn,.slice bA bk bc,.bool bn',.slice bA' bk' bc']] w (RetQ w (if qb<qa then qb else qa)) :=
 qmin_any (WB s) (WB s) (WB s) (wb_ok hs) (Nat.le_refl _) (Nat.le_refl _) _ _ _ _ _ _ _ _ _ _ _ _ _ _ _ _ _ _ _ ha hb
theorem QS.qz (h:QS s w an aA ak ac an' aA' ak' ac' q) (hs:s≤3000000000) :
  ∃ na da,QZ w an aA ak an' aA' ak' na da∧(qnum na da).natAbs<WB s∧(qden da).natAbs<WB s∧q=mkRat (qnum na da) (qden da).natAbs∧(qden da).natAbs≠0:=by
 obtain ⟨na,da,h1,h2,h3,h4⟩:=h;exact ⟨na,da,h1.qz (wb_half h2 hs) (wb_half h3 hs),h2,h3,h4,den_nz da⟩
end
theorem wb_mul_half {x y s:Nat} (hx:x<WB s) (hy:y<WB s) (hs:s≤1000000000):(hd (x*y)).length≤6000000000:=wb_half (s:=s+s+1) (by have:=wb_mul s s;have:=Nat.mul_lt_mul'' hx hy;omega) (by omega)
theorem rmulq_s {s:Nat} (hs:s≤1000000000) (an an' bn bn':Bool) (A A' B B':Option Addr) (n c n' c' m d m' d':Nat) (qa qb:Rat) (w:World) (ha:QS s w an A n c an' A' n' c' qa) (hb:QS s w bn B m d bn' B' m' d' qb) :
  Calls Tryz.prog 80 #[.agg #[.bool an,.slice A n c,.bool an',.slice A' n' c'],.agg #[.bool bn,.slice B m d,.bool bn',.slice B' m' d']] w (RetQ w (qa*qb)):=by
 obtain ⟨na,da,hQ,h1,h2,hq,h0⟩:=ha.qz (by omega);obtain ⟨nb,db,hR,g1,g2,hr,g0⟩:=hb.qz (by omega);have LEN4:=Hj (wb_half h1 (by omega));have LEN5:=Hj (wb_half g1 (by omega));have LEN7:=Hj (wb_half h2 (by omega));have LEN8:=Hj (wb_half g2 (by omega));have LEN6:=Hj (show (hd (qnum na da*qnum nb db).natAbs).length≤6000000000 by rw [Int.natAbs_mul];exact wb_mul_half h1 g1 hs);have LEN9:=Hj (show (hd ((qden da).natAbs*(qden db).natAbs)).length≤6000000000 from wb_mul_half h2 g2 hs);have hv0:(qden da).natAbs*(qden db).natAbs≠0:=Nat.mul_ne_zero h0 g0;have hy:qa*qb=mkRat (qnum na da*qnum nb db) ((qden da).natAbs*(qden db).natAbs):=by rw [hq,hr,rat_mul,Int.natAbs_mul]
 generalize qa*qb=y at *;clear ha hb h1 h2 g1 g2 hq hr h0 g0;go_enter Tryz.func80,Tryz.ntmps80
 go_wp2_with fail
 obtain ⟨hB0,hB1,hB2,hBW,hsz⟩:=pre3 w 42 #[.bool an,.slice A n c,.bool an',.slice A' n' c'] 42 #[.bool bn,.slice B m d,.bool bn',.slice B' m' d'] 42 #[.bool false,.slice none 0 0,.bool false,.slice none 0 0];generalize ((w.alloc (.cells #[.bool an,.slice A n c,.bool an',.slice A' n' c'] 42)).alloc (.cells #[.bool bn,.slice B m d,.bool bn',.slice B' m' d'] 42)).alloc (.cells #[.bool false,.slice none 0 0,.bool false,.slice none 0 0] 42)=W at *;have HSZ:=Hj hsz;clear hsz;have TN:=Hj (fun W' (hW:Below (w.heap.size+1+1) W W')=>rnum_z an an' A A' n c n' c' na da W' (hQ.below (hBW.trans (hW.mono (by omega)))));have TD:=Hj (fun W' (hW:Below (w.heap.size+1+1) W W')=>rden_z an an' A A' n c n' c' na da W' (hQ.below (hBW.trans (hW.mono (by omega)))));have TN2:=Hj (fun W' (hW:Below (w.heap.size+1+1) W W')=>rnum_z bn bn' B B' m d m' d' nb db W' (hR.below (hBW.trans (hW.mono (by omega)))));have TD2:=Hj (fun W' (hW:Below (w.heap.size+1+1) W W')=>rden_z bn bn' B B' m d m' d' nb db W' (hR.below (hBW.trans (hW.mono (by omega)))));have TM:=Hj (fun W' (s t:Bool) (C D:Option Addr) (j e j' e':Nat) (hC:ZK W' s C j (qnum na da)) (hD:ZK W' t D j' (qnum nb db))=>rmul_z s t C D j e j' e' (qnum na da) (qnum nb db) W' hC hD);have TM2:=Hj (fun W' (C D:Option Addr) (j e j' e':Nat) (hC:ZK W' false C j ((qden da).natAbs:Int)) (hD:ZK W' false D j' ((qden db).natAbs:Int))=>(rmul_z false false C D j e j' e' ((qden da).natAbs:Int) ((qden db).natAbs:Int) W' hC hD).mono fun _ _ h=>RetZ.toN (v:=(qden da).natAbs*(qden db).natAbs) (by rw [Int.natCast_mul];exact h));have TO:=Hj (fun W' (s:Bool) (C D:Option Addr) (j e j' e':Nat) (hC:ZK W' s C j (qnum na da*qnum nb db)) (hD:ZK W' false D j' ((((qden da).natAbs*(qden db).natAbs:Nat)):Int))=>rover_z s C D j e j' e' (qnum na da*qnum nb db) ((qden da).natAbs*(qden db).natAbs) W' hC hD hv0);rw [← hy] at TO;generalize qnum na da*qnum nb db=z6 at *;generalize (qden da).natAbs*(qden db).natAbs=v9 at *;generalize qnum na da=z4 at *;generalize qnum nb db=z5 at *;generalize (qden da).natAbs=v7 at *;generalize (qden db).natAbs=v8 at *;have s5:=RS4.start hB2;clear hQ hR hy hv0;have hS:∀ w',RS4 (w.heap.size+1+1) 42 W w'→(w'.cell? ⟨w.heap.size,0,none⟩=some (.bool an)∧w'.cell? ⟨w.heap.size,1,none⟩=some (.slice A n c)∧w'.cell? ⟨w.heap.size,2,none⟩=some (.bool an')∧w'.cell? ⟨w.heap.size,3,none⟩=some (.slice A' n' c')∧w'.cell? ⟨w.heap.size+1,0,none⟩=some (.bool bn)∧w'.cell? ⟨w.heap.size+1,1,none⟩=some (.slice B m d)∧w'.cell? ⟨w.heap.size+1,2,none⟩=some (.bool bn')∧w'.cell? ⟨w.heap.size+1,3,none⟩=some (.slice B' m' d'))∧RS4 (w.heap.size+1+1) 42 W w':=fun w' hk=>⟨⟨(hk.blk hB0 (by omega)).cell 0,(hk.blk hB0 (by omega)).cell 1,(hk.blk hB0 (by omega)).cell 2,(hk.blk hB0 (by omega)).cell 3,(hk.blk hB1 (by omega)).cell 0,(hk.blk hB1 (by omega)).cell 1,(hk.blk hB1 (by omega)).cell 2,(hk.blk hB1 (by omega)).cell 3⟩,hk⟩;have HS:=Hj hS;clear hS
 go_region_held3 (fun w'=>(w'.cell? ⟨w.heap.size,0,none⟩=some (.bool an)∧w'.cell? ⟨w.heap.size,1,none⟩=some (.slice A n c)∧w'.cell? ⟨w.heap.size,2,none⟩=some (.bool an')∧w'.cell? ⟨w.heap.size,3,none⟩=some (.slice A' n' c')∧w'.cell? ⟨w.heap.size+1,0,none⟩=some (.bool bn)∧w'.cell? ⟨w.heap.size+1,1,none⟩=some (.slice B m d)∧w'.cell? ⟨w.heap.size+1,2,none⟩=some (.bool bn')∧w'.cell? ⟨w.heap.size+1,3,none⟩=some (.slice B' m' d'))∧RS4 (w.heap.size+1+1) 42 W w')
  (with_reducible first|(refine HS.out _ ?_;assumption)|(refine HS.out _ (RS4.drew ?_);assumption)|(refine' HS.out _ (RS4.drew (And.right ?_));rotate_left;assumption)|(refine' HS.out _ (RS4.set (And.right ?_) _ _ _ _);rotate_left;assumption))
  (first
   | (go_at_call_of 129 (Value.agg #[Value.bool an,Value.slice A n c,Value.bool an',Value.slice A' n' c']);have hk:=And.right ‹_∧RS4 (w.heap.size+1+1) 42 W _›;refine (TN.out _ hk.1).mono ?_;rintro e v4 ⟨A4,k4,c4,rfl,hk4,hW4,hF4,hb4⟩;have hZ4:=zk_of hW4 (LEN4.out);have hr:=hk.call hb4;(try have hZ5:=hZ5.below hb4);(try have hZ6:=hZ6.below hb4);(try have hZ7:=hZ7.below hb4);(try have hZ8:=hZ8.below hb4);(try have hZ9:=hZ9.below hb4);clear hk hb4 hW4 hF4 hk4)
   | (go_at_call_of 129 (Value.agg #[Value.bool bn,Value.slice B m d,Value.bool bn',Value.slice B' m' d']);have hk:=And.right ‹_∧RS4 (w.heap.size+1+1) 42 W _›;refine (TN2.out _ hk.1).mono ?_;rintro e v5 ⟨A5,k5,c5,rfl,hk5,hW5,hF5,hb5⟩;have hZ5:=zk_of hW5 (LEN5.out);have hr:=hk.call hb5;(try have hZ4:=hZ4.below hb5);(try have hZ6:=hZ6.below hb5);(try have hZ7:=hZ7.below hb5);(try have hZ8:=hZ8.below hb5);(try have hZ9:=hZ9.below hb5);clear hk hb5 hW5 hF5 hk5)
   | (go_at_call_of 130 (Value.agg #[Value.bool an,Value.slice A n c,Value.bool an',Value.slice A' n' c']);have hk:=And.right ‹_∧RS4 (w.heap.size+1+1) 42 W _›;refine (TD.out _ hk.1).mono ?_;rintro e v7 ⟨A7,k7,c7,rfl,hk7,hW7,hF7,hb7⟩;have hZ7:=zk_ofN hW7 (LEN7.out);have hr:=hk.call hb7;(try have hZ4:=hZ4.below hb7);(try have hZ5:=hZ5.below hb7);(try have hZ6:=hZ6.below hb7);(try have hZ8:=hZ8.below hb7);(try have hZ9:=hZ9.below hb7);clear hk hb7 hW7 hF7 hk7)
   | (go_at_call_of 130 (Value.agg #[Value.bool bn,Value.slice B m d,Value.bool bn',Value.slice B' m' d']);have hk:=And.right ‹_∧RS4 (w.heap.size+1+1) 42 W _›;refine (TD2.out _ hk.1).mono ?_;rintro e v8 ⟨A8,k8,c8,rfl,hk8,hW8,hF8,hb8⟩;have hZ8:=zk_ofN hW8 (LEN8.out);have hr:=hk.call hb8;(try have hZ4:=hZ4.below hb8);(try have hZ5:=hZ5.below hb8);(try have hZ6:=hZ6.below hb8);(try have hZ7:=hZ7.below hb8);(try have hZ9:=hZ9.below hb8);clear hk hb8 hW8 hF8 hk8)
   | (go_at_call_of 131 (Value.agg #[Value.bool (decide (z4<0)),Value.slice A4 k4 c4]);have hk:=And.right ‹_∧RS4 (w.heap.size+1+1) 42 W _›;refine (TM.out _ _ _ _ _ _ _ _ _ hZ4 hZ5).mono ?_;rintro e v6 ⟨A6,k6,c6,rfl,hk6,hW6,hF6,hb6⟩;have hZ6:=zk_of hW6 (LEN6.out);have hr:=hk.call hb6;(try have hZ7:=hZ7.below hb6);(try have hZ8:=hZ8.below hb6);(try have hZ9:=hZ9.below hb6);clear hk hb6 hW6 hF6 hk6)
   | (go_at_call_of 131 (Value.agg #[Value.bool false,Value.slice A7 k7 c7]);have hk:=And.right ‹_∧RS4 (w.heap.size+1+1) 42 W _›;refine (TM2.out _ _ _ _ _ _ _ hZ7 hZ8).mono ?_;rintro e v9 ⟨A9,k9,c9,rfl,hk9,hW9,hF9,hb9⟩;have hZ9:=zk_ofN hW9 (LEN9.out);have hr:=hk.call hb9;(try have hZ4:=hZ4.below hb9);(try have hZ5:=hZ5.below hb9);(try have hZ6:=hZ6.below hb9);clear hk hb9 hW9 hF9 hk9)
   | (go_at_call 128;have hk:=And.right ‹_∧RS4 (w.heap.size+1+1) 42 W _›;refine (TO.out _ _ _ _ _ _ _ _ hZ6 hZ9).mono ?_;rintro e v11 ⟨A11,k11,c11,A12,k12,c12,rfl,hk11,hk12,hW11,hW12,hF11,hF12,hb11⟩;have hl9:=RS4.lt hk;have hr9:=hk.call hb11;obtain ⟨_,_,_,_,f0,f1,f2,f3,f4,f5,f6,f7⟩:=hr9.four))
 all_goals
  have hfin:=retQ_close hBW (by omega) (by have:=HSZ.out;have h9:=hl9;omega) hr9 hk11 hk12 hW11 hW12 hF11 hF12;obtain ⟨d0,d1,d2,d3,-,-,-,-⟩:=(hr9.done (.bool (decide ((y).num<0))) (.slice A11 k11 c11) (.bool false) (.slice A12 k12 c12)).four;have HF:=Hj hfin;clear hfin hl9 hr9 TN TD TN2 TD2 TM TM2 TO hZ6 hZ9;go_wp2;refine bodyPost_ret (v:=.agg #[.bool (decide ((y).num<0)),.slice A11 k11 c11,.bool false,.slice A12 k12 c12]) ?_ rfl HF.out;simp [results,Tryz.results80,go_sem,d0,d1,d2,d3]
end Go.Proofs.YtjajigkacccdgaaGreat
