/-
Lemmas of the walk; no further conditions.
-/
import Derived.Test.YtjajigkacccdgaaGreatThBD
import Derived.Deep.CutRange
import Derived.Deep.DeepCutAuto
import Derived.Deep.DrawnRows
set_option linter.unusedVariables false
set_option linter.unusedSimpArgs false
set_option maxRecDepth 100000
set_option maxHeartbeats 16000000
namespace Go.Proofs.YtjajigkacccdgaaGreat
open Go.RowKit
open Wd
def ZK (w:World) (an:Bool) (A:Option Addr) (n:Nat) (z:Int):Prop:=∃ l,Wat w A n l∧n≤10000000000∧sg an (val l)=z∧(hd z.natAbs).length≤6000000000
section
variable {w w':World} {an:Bool} {A:Option Addr} {n c:Nat} {z:Int}
theorem ZK.below (h:ZK w an A n z) (hb:Below w.heap.size w w'):ZK w' an A n z:=by
 obtain ⟨l,h1,h2⟩:=h;exact ⟨l,h1.below hb,h2⟩
theorem ZK.len (h:ZK w an A n z):(hd z.natAbs).length≤6000000000:=h.choose_spec.2.2.2
theorem ZK.neg (h:ZK w an A n z) (h0:z≠0):an=decide (z<0):=by
 obtain ⟨l,h1,h2,h3,h4⟩:=h;subst h3;by_cases hv:val l=0
 ·rw [hv,sg_zero] at h0;exact absurd rfl h0
 ·rw [sg_neg hv]
theorem ZK.sg (h:ZK w an A n z):sg an z.natAbs=z:=by
 obtain ⟨l,h1,h2,h3,h4⟩:=h;rw [← h3,sg_natAbs]
theorem ZK.halves (h:ZK w an A n z):Calls Tryz.prog 186 #[.slice A n c] w (RetH w z.natAbs):=by
 obtain ⟨l,h1,h2,h3,h4⟩:=h;have:=halves_any A n c l w h1 (by omega);rw [← h3,sg_natAbs];exact this
theorem digs_half {v K:Nat} (h:(hd v).length≤2*K):(digs v).length≤K:=by
 have h2:=hd_len_le.1 h;rw [Nat.pow_mul] at h2;exact digs_len_le.2 h2
theorem zk_of (h:Wat w A n (digs z.natAbs)) (hz:(hd z.natAbs).length≤6000000000):ZK w (decide (z<0)) A n z:=by
 refine ⟨_,h,?_,by rw [val_digs,sg_self],hz⟩;have:=digs_half (v:=z.natAbs) (K:=3000000000) (by omega);have h1:=h.1;omega
end
theorem sg_flip (b:Bool) (v:Nat):sg (!b) v = -(sg b v):=by unfold sg;cases b<;>simp
theorem rsign_z (an:Bool) (A:Option Addr) (n c:Nat) (z:Int) (w:World) (h:ZK w an A n z) :
  Calls Tryz.prog 156 #[.agg #[.bool an,.slice A n c]] w fun e w'=>e=.returned (.int .i64 (cmpI z 0))∧Below w.heap.size w w':=by
 have T:=Hj (fun W (hW:Below w.heap.size w W)=>ZK.halves (c:=c) (h.below hW));have HG:=Hj (fun h0=>h.neg h0);clear h;go_enter Tryz.func156,Tryz.ntmps156
 go_wp2_with fail
 obtain ⟨hB0,hBW,hsz⟩:=pre1 w 40 #[.bool an,.slice A n c];generalize w.alloc (.cells #[.bool an,.slice A n c] 40)=W at *;have HSZ:=Hj hsz;clear hsz;obtain ⟨c0,c1,-,-⟩:=hB0.two;refine (T.out _ hBW).mono ?_;rintro e w1 ⟨A1,n1,c2,rfl,hI,hb1⟩;have hz:=hI.zero;have hB0:=hB0.below hb1 hB0.lt;have HF:=Hj (hBW.trans (hb1.mono hBW.size));obtain ⟨c0,c1,-,-⟩:=hB0.two;clear hBW hb1 hB0 HSZ T hI;by_cases h0:n1=0
 ·subst h0;have hv:z=0:=by have:=hz.1 rfl;omega
  have HN:=Hj (show cmpI z 0=0 by rw [hv];rfl);clear hz hv HG;go_wp2;go_ret;exact ⟨by rw [HN.out];rfl,HF.out⟩
 ·have hv:z≠0:=fun h=>h0 (hz.2 (by rw [h];rfl));have hb:=HG.out hv;have d1:((n1:Int) == 0)=false:=by simp;omega
  have d2:(n1 == 0)=false:=by simp;omega
  by_cases hs:z<0
  ·rw [decide_eq_true hs] at hb;subst hb;have HN:=Hj (cmpI_lt hs);clear hz hv HG hs h0;go_wp2;go_ret;exact ⟨by rw [HN.out];rfl,HF.out⟩
  ·rw [decide_eq_false hs] at hb;subst hb;have HN:=Hj (cmpI_gt (show 0<z by omega));clear hz hv HG hs h0;go_wp2;go_ret;exact ⟨by rw [HN.out];rfl,HF.out⟩
theorem rneg_z' (an:Bool) (A:Option Addr) (n c:Nat) (z y:Int) (w:World) (h:ZK w an A n z) (hy:sg (!an) z.natAbs=y) :
  Calls Tryz.prog 182 #[.agg #[.bool an,.slice A n c]] w (RetZ w y):=by
 have hl:=h.len;have TO:=Hj (fun (W:World) (A1:Option Addr) (n1 c1:Nat) (h1:HA W A1 n1 c1 z.natAbs)=>of_any (!an) A1 n1 c1 z.natAbs W h1.ra (by rw [h1.1];omega));rw [hy] at TO;clear hy;go_enter Tryz.func182,Tryz.ntmps182
 go_wp2_with fail
 obtain ⟨hB0,hB1,hBW,hsz⟩:=pre2 w 40 #[.bool an,.slice A n c] 40 #[.bool false,.slice none 0 0];generalize (w.alloc (.cells #[.bool an,.slice A n c] 40)).alloc (.cells #[.bool false,.slice none 0 0] 40)=W at *;have HSZ:=Hj hsz;clear hsz;have T:=Hj (fun W' (hW:Below (w.heap.size+1) W W')=>ZK.halves (c:=c) (h.below (hBW.trans (hW.mono (by omega)))));have s5:=RS.start hB1;clear h hl;have hS:∀ w',RS (w.heap.size+1) 40 W w'→(w'.cell? ⟨w.heap.size,0,none⟩=some (.bool an)∧w'.cell? ⟨w.heap.size,1,none⟩=some (.slice A n c))∧RS (w.heap.size+1) 40 W w':=fun w' hk=>⟨⟨(hk.blk hB0 (by omega)).cell 0,(hk.blk hB0 (by omega)).cell 1⟩,hk⟩;have HS:=Hj hS;clear hS
 go_region_held3 (fun w'=>(w'.cell? ⟨w.heap.size,0,none⟩=some (.bool an)∧w'.cell? ⟨w.heap.size,1,none⟩=some (.slice A n c))∧RS (w.heap.size+1) 40 W w')
  (with_reducible first|(refine HS.out _ ?_;assumption)|(refine HS.out _ (RS.drew ?_);assumption)|(refine' HS.out _ (RS.drew (And.right ?_));rotate_left;assumption)|(refine' HS.out _ (RS.set (And.right ?_) _ _);rotate_left;assumption))
  (first
   | (go_at_call 186;have hk:=And.right ‹_∧RS (w.heap.size+1) 40 W _›;refine (T.out _ hk.1).mono ?_;rintro e w1 ⟨A1,n1,c1,rfl,hI1,hb1⟩;have hr1:=hk.call hb1)
   | (go_at_call 184;have hk:=And.right ‹_∧RS (w.heap.size+1) 40 W _›;refine (TO.out _ A1 n1 c1 hI1).mono ?_;rintro e w3 ⟨A3,k3,c3,rfl,hk3,hW3,hF3,hb3⟩;have hr3:=hr1.call hb3;obtain ⟨_,_,c0,c1,f0,f1⟩:=hr3.two))
 have hfin:=retZ_close hBW (by omega) (by have:=HSZ.out;have h9:=(RS.two hr1);obtain ⟨_,_,_,hx9⟩:=hr1;have h9:=hx9.lt;omega) hr3 hk3 hW3 hF3;obtain ⟨d0,d1,-,-⟩:=(hr3.done (.bool (decide (y<0))) (.slice A3 k3 c3)).two;have HF:=Hj hfin;clear hfin TO hI1 hb1 hb3;go_wp2;refine bodyPost_ret (v:=.agg #[.bool (decide (y<0)),.slice A3 k3 c3]) ?_ rfl HF.out;simp [results,Tryz.results182,go_sem,d0,d1]
theorem rneg_z (an:Bool) (A:Option Addr) (n c:Nat) (z:Int) (w:World) (h:ZK w an A n z) :
  Calls Tryz.prog 182 #[.agg #[.bool an,.slice A n c]] w (RetZ w (-z)):=rneg_z' an A n c z _ w h (by rw [sg_flip,h.sg])
theorem rabs_z (an:Bool) (A:Option Addr) (n c:Nat) (z:Int) (w:World) (h:ZK w an A n z) :
  Calls Tryz.prog 183 #[.agg #[.bool an,.slice A n c]] w (RetZ w (z.natAbs:Int)):=by
 have hl:=h.len;have T:=Hj (fun W (hW:Below w.heap.size w W)=>ZK.halves (c:=c) (h.below hW));have TO:=Hj (fun (W:World) (A1:Option Addr) (n1 c1:Nat) (h1:HA W A1 n1 c1 z.natAbs)=>of_any false A1 n1 c1 z.natAbs W h1.ra (by rw [h1.1];omega));simp only [show ∀ v:Nat,sg false v=(v:Int) from fun _=>rfl] at TO;generalize hv:z.natAbs=v at *;clear h hl hv;go_enter Tryz.func183,Tryz.ntmps183
 go_wp2_with fail
 obtain ⟨hB0,hB1,hBW,hsz⟩:=pre2 w 40 #[.bool an,.slice A n c] 40 #[.bool false,.slice none 0 0];generalize (w.alloc (.cells #[.bool an,.slice A n c] 40)).alloc (.cells #[.bool false,.slice none 0 0] 40)=W at *;have HSZ:=Hj hsz;clear hsz;refine (T.out _ hBW).mono ?_;rintro e w1 ⟨A1,n1,c2,rfl,hI,hb1⟩;have hr1:=(RS.start hB1).call hb1;have HI:=Hj hI;clear hI T hB0 hB1
 go_wp2_with fail
 refine (TO.out _ _ _ _ HI.out).mono ?_;rintro e w3 ⟨A3,k3,c3,rfl,hk3,hW3,hF3,hb3⟩;have hr3:=hr1.call hb3;obtain ⟨_,_,c0,c1,f0,f1⟩:=hr3.two;have hfin:=retZ_close hBW (by omega) (by have:=HSZ.out;have h9:=hb1.size;omega) hr3 hk3 hW3 hF3;obtain ⟨d0,d1,-,-⟩:=(hr3.done (.bool (decide ((v:Int)<0))) (.slice A3 k3 c3)).two;have HF:=Hj hfin;clear hfin TO HI hb1 hb3;go_wp2;refine bodyPost_ret (v:=.agg #[.bool (decide ((v:Int)<0)),.slice A3 k3 c3]) ?_ rfl HF.out;simp [results,Tryz.results183,go_sem,d0,d1]
theorem rleast_z' (an:Bool) (A:Option Addr) (n c:Nat) (z y:Int) (w:World) (h:ZK w an A n z) (hy:sg (an) z.natAbs=y) :
  Calls Tryz.prog 134 #[.agg #[.bool an,.slice A n c]] w (RetZ w y):=by
 have hl:=h.len;have TO:=Hj (fun (W:World) (A1:Option Addr) (n1 c1:Nat) (h1:HA W A1 n1 c1 z.natAbs)=>of_any (an) A1 n1 c1 z.natAbs W h1.ra (by rw [h1.1];omega));rw [hy] at TO;clear hy;go_enter Tryz.func134,Tryz.ntmps134
 go_wp2_with fail
 obtain ⟨hB0,hB1,hBW,hsz⟩:=pre2 w 40 #[.bool an,.slice A n c] 40 #[.bool false,.slice none 0 0];generalize (w.alloc (.cells #[.bool an,.slice A n c] 40)).alloc (.cells #[.bool false,.slice none 0 0] 40)=W at *;have HSZ:=Hj hsz;clear hsz;have T:=Hj (fun W' (hW:Below (w.heap.size+1) W W')=>ZK.halves (c:=c) (h.below (hBW.trans (hW.mono (by omega)))));have s5:=RS.start hB1;clear h hl;have hS:∀ w',RS (w.heap.size+1) 40 W w'→(w'.cell? ⟨w.heap.size,0,none⟩=some (.bool an)∧w'.cell? ⟨w.heap.size,1,none⟩=some (.slice A n c))∧RS (w.heap.size+1) 40 W w':=fun w' hk=>⟨⟨(hk.blk hB0 (by omega)).cell 0,(hk.blk hB0 (by omega)).cell 1⟩,hk⟩;have HS:=Hj hS;clear hS
 go_region_held3 (fun w'=>(w'.cell? ⟨w.heap.size,0,none⟩=some (.bool an)∧w'.cell? ⟨w.heap.size,1,none⟩=some (.slice A n c))∧RS (w.heap.size+1) 40 W w')
  (with_reducible first|(refine HS.out _ ?_;assumption)|(refine HS.out _ (RS.drew ?_);assumption)|(refine' HS.out _ (RS.drew (And.right ?_));rotate_left;assumption)|(refine' HS.out _ (RS.set (And.right ?_) _ _);rotate_left;assumption))
  (first
   | (go_at_call 186;have hk:=And.right ‹_∧RS (w.heap.size+1) 40 W _›;refine (T.out _ hk.1).mono ?_;rintro e w1 ⟨A1,n1,c1,rfl,hI1,hb1⟩;have hr1:=hk.call hb1)
   | (go_at_call 184;have hk:=And.right ‹_∧RS (w.heap.size+1) 40 W _›;refine (TO.out _ A1 n1 c1 hI1).mono ?_;rintro e w3 ⟨A3,k3,c3,rfl,hk3,hW3,hF3,hb3⟩;have hr3:=hr1.call hb3;obtain ⟨_,_,c0,c1,f0,f1⟩:=hr3.two))
 have hfin:=retZ_close hBW (by omega) (by have:=HSZ.out;have h9:=(RS.two hr1);obtain ⟨_,_,_,hx9⟩:=hr1;have h9:=hx9.lt;omega) hr3 hk3 hW3 hF3;obtain ⟨d0,d1,-,-⟩:=(hr3.done (.bool (decide (y<0))) (.slice A3 k3 c3)).two;have HF:=Hj hfin;clear hfin TO hI1 hb1 hb3;go_wp2;refine bodyPost_ret (v:=.agg #[.bool (decide (y<0)),.slice A3 k3 c3]) ?_ rfl HF.out;simp [results,Tryz.results134,go_sem,d0,d1]
theorem rleast_z (an:Bool) (A:Option Addr) (n c:Nat) (z:Int) (w:World) (h:ZK w an A n z) :
  Calls Tryz.prog 134 #[.agg #[.bool an,.slice A n c]] w (RetZ w (z)):=rleast_z' an A n c z _ w h (h.sg)
def RetN (w:World) (v:Nat) (e:Ending) (w':World):Prop:=∃ A k c,e=.returned (.agg #[.bool false,.slice A k c])∧k≤c∧Wat w' A k (digs v)∧Fresh w.heap.size w' A k∧Below w.heap.size w w'
theorem RetZ.toN {w:World} {v:Nat} {e:Ending} {w':World} (h:RetZ w (v:Int) e w'):RetN w v e w':=by
 obtain ⟨A,k,c,h1,h2,h3,h4⟩:=h;have:decide ((v:Int)<0)=false:=by simp
 rw [this] at h1;exact ⟨A,k,c,h1,h2,h3,h4⟩
def readV (w:World) (t:Value):Nat:=match t with
 | .slice (some p) n _=>vh ((List.range n).map fun j=>match w.cell? ⟨p.block,p.off+j,none⟩ with|some (.int _ z)=>z|_=>0)
 | _=>0
theorem HA.read {w:World} {A:Option Addr} {n c v:Nat} (h:HA w A n c v):readV w (.slice A n c)=v:=by
 by_cases h0:n=0
 ·have hv:=h.zero.1 h0;subst h0;subst hv;cases A<;>rfl
 ·obtain ⟨b,o,rfl,hb,hc⟩:=h.ra.cells h0;have hl:=vh_list v n;rw [Nat.mod_eq_of_lt h.ra.lt] at hl;refine Eq.trans ?_ hl;show vh _=vh _
  congr 1
  apply List.map_congr_left;intro j hj;have:=hc j (List.mem_range.1 hj);simp only [this]
theorem ZK.ta {w W:World} {an:Bool} {A:Option Addr} {n c:Nat} {z:Int} (h:ZK w an A n z) (hBW:Below w.heap.size w W):∀ W',Kp W W'→Calls Tryz.prog 186 #[.slice A n c] W' (RetH W' z.natAbs):=fun W' hW=>ZK.halves (h.below (hBW.trans (Below.mono hW hBW.size)))
theorem gcd_z (an bn:Bool) (A B:Option Addr) (n c m d:Nat) (za zb:Int) (w:World) (h:ZK w an A n za) (h':ZK w bn B m zb) :
  Calls Tryz.prog 178 #[.agg #[.bool an,.slice A n c],.agg #[.bool bn,.slice B m d]] w (RetN w (Nat.gcd za.natAbs zb.natAbs)):=by
 have HAB:=Hj (And.intro h.len h'.len);go_enter Tryz.func178,Tryz.ntmps178
 go_wp2_with fail
 obtain ⟨hB0,hB1,hB2,hBW,hsz⟩:=pre3 w 40 #[.bool an,.slice A n c] 40 #[.bool bn,.slice B m d] 40 #[.bool false,.slice none 0 0];generalize ((w.alloc (.cells #[.bool an,.slice A n c] 40)).alloc (.cells #[.bool bn,.slice B m d] 40)).alloc (.cells #[.bool false,.slice none 0 0] 40)=W at *;have HSZ:=Hj hsz;clear hsz;have TA:=Hj (h.ta (c:=c) hBW);have TB:=Hj (h'.ta (c:=d) hBW);generalize za.natAbs=a at *;generalize zb.natAbs=b at *;clear h h'
 go_upto_region 1 with fail
 have hS:∀ w',Kp W w'→(w'.cell? ⟨w.heap.size,1,none⟩=some (.slice A n c)∧w'.cell? ⟨w.heap.size+1,1,none⟩=some (.slice B m d))∧Kp W w':=fun w' hk=>⟨⟨(hk.blk hB0).cell 1,(hk.blk hB1).cell 1⟩,hk⟩;have HS:=Hj hS;have s5:=Kp.refl W;clear hS
 go_cut [5,6] (fun s t wx=>∃ A1 n1 c1 A2 n2 c2,s=.slice A1 n1 c1∧t=.slice A2 n2 c2∧Hid (Kp W wx∧HA wx A1 n1 c1 a∧HA wx A2 n2 c2 b))
 case first =>
  go_region_held3 (fun w'=>(w'.cell? ⟨w.heap.size,1,none⟩=some (.slice A n c)∧w'.cell? ⟨w.heap.size+1,1,none⟩=some (.slice B m d))∧Kp W w')
   (with_reducible first|(refine HS.out _ ?_;assumption)|(refine HS.out _ (Kp.drew ?_);assumption)|(refine' HS.out _ (Kp.drew (And.right ?_));rotate_left;assumption))
   (first
    | (go_at_call_of 186 (Value.slice A n c);have hk:=And.right ‹_∧Kp W _›;refine (TA.out _ hk).mono ?_;rintro e v4 ⟨A4,n4,c4,rfl,hI4,hb4⟩;have hp4:=Kp.trans hk hb4;(try have hI5:=hI5.below hb4);clear hk)
    | (go_at_call_of 186 (Value.slice B m d);have hk:=And.right ‹_∧Kp W _›;refine (TB.out _ hk).mono ?_;rintro e v5 ⟨A5,n5,c5,rfl,hI5,hb5⟩;have hp5:=Kp.trans hk hb5;(try have hI4:=hI4.below hb5);clear hk))
  all_goals
   (try go_wp2_with fail)
   go_meet
   first
    | exact ⟨A4,n4,c4,A5,n5,c5,rfl,rfl,Hj ⟨hp5,hI4,hI5⟩⟩
    | exact ⟨A4,n4,c4,A5,n5,c5,rfl,rfl,Hj ⟨hp4,hI4,hI5⟩⟩
 case rest =>
  obtain ⟨A1,n1,c1,A2,n2,c2,rfl,rfl,HV⟩:=hcut;generalize wc=V at *;have HB2:=Hj hB2;have HBW:=Hj hBW;clear TA TB HS s5 hB0 hB1 hB2 hBW
  go_wp2_with fail
  go_loopw [5,6] (fun t5 t6 wr=>∃ A1 n1 c1 A2 n2 c2 x y,t5=.slice A1 n1 c1∧t6=.slice A2 n2 c2∧Hid (Kp W wr∧HA wr A1 n1 c1 x∧HA wr A2 n2 c2 y∧Nat.gcd x y=Nat.gcd a b∧(hd x).length≤6000000000∧(hd y).length≤6000000000)) (fun _ t6 wr=>readV wr t6)
  case atStart=>exact ⟨A1,n1,c1,A2,n2,c2,a,b,rfl,rfl,Hj ⟨HV.out.1,HV.out.2.1,HV.out.2.2,rfl,HAB.out.1,HAB.out.2⟩⟩
  case round =>
   clear HV;obtain ⟨A1,n1,c1,A2,n2,c2,x,y,rfl,rfl,HX⟩:=hrel;have hbx:n1≤6000000000:=by rw [HX.out.2.1.1];exact HX.out.2.2.2.2.1
   have hby:n2≤6000000000:=by rw [HX.out.2.2.1.1];exact HX.out.2.2.2.2.2
   by_cases hy0:y=0
   ·subst hy0;have hn2:n2=0:=HX.out.2.2.1.zero.2 rfl;subst hn2;have hg:x=Nat.gcd a b:=by rw [← HX.out.2.2.2.1];exact (Nat.gcd_zero_right x).symm
    have TO:=Hj (of_any false A1 n1 c1 x wr HX.out.2.1.ra (by omega));rw [hg] at TO;simp only [show ∀ v:Nat,sg false v=(v:Int) from fun _=>rfl] at TO;have hr1:=(RS.start HB2.out).call HX.out.1;have hb1:Below W.heap.size W wr:=HX.out.1;have hBW:=HBW.out;clear hg HX hby
    go_wp2_with fail
    refine TO.out.mono ?_;rintro e w3 ⟨A3,k3,c3,rfl,hk3,hW3,hF3,hb3⟩;have hr3:=hr1.call hb3;obtain ⟨_,_,d0,d1,f0,f1⟩:=hr3.two;have hfin:=(retZ_close hBW (by omega) (by have:=HSZ.out;have h9:=hb1.size;omega) hr3 hk3 hW3 hF3).toN;simp only [show decide (((Nat.gcd a b:Nat):Int)<0)=false by simp] at *;obtain ⟨d0,d1,-,-⟩:=(hr3.done (.bool false) (.slice A3 k3 c3)).two;have HF:=Hj hfin;clear hfin hb1 hb3 hW3 hF3 hr1 hr3 TO;go_wp2;refine bodyPost_ret (v:=.agg #[.bool false,.slice A3 k3 c3]) ?_ rfl HF.out;simp [results,Tryz.results178,go_sem,d0,d1]
   ·have hn2:n2≠0:=fun h=>hy0 (HX.out.2.2.1.zero.1 h);have e1:decide ((0:Int)<(n2:Int))=true:=decide_eq_true (by omega);have e2:decide (0<n2)=true:=decide_eq_true (by omega);have HR:=Hj HX.out.2.2.1.read;have TD:=Hj (div_ra A1 A2 n1 c1 n2 c2 x y wr HX.out.2.1 HX.out.2.2.1 (Nat.pos_of_ne_zero hy0) (by omega) (by omega));have HY:=Hj hy0;clear hy0 hn2 hbx hby
    go_wp2_with fail
    refine TD.out.mono ?_;rintro e v7 ⟨A6,n6,c6,A7,n7,c7,rfl,h6,h7,hb7⟩;have hyp:=Nat.mod_lt x (Nat.pos_of_ne_zero HY.out);have HN:=Hj (show Kp W v7∧HA v7 A2 n2 c2 y∧HA v7 A7 n7 c7 (x % y)∧Nat.gcd y (x % y)=Nat.gcd a b∧(hd y).length≤6000000000∧(hd (x % y)).length≤6000000000 from ⟨Kp.trans HX.out.1 hb7,HX.out.2.2.1.below hb7,h7,by rw [← HX.out.2.2.2.1,Nat.gcd_comm y,← Nat.gcd_rec,Nat.gcd_comm],HX.out.2.2.2.2.2,Nat.le_trans (hd_len_mono (Nat.le_of_lt hyp)) HX.out.2.2.2.2.2⟩);have HM:=Hj (show readV v7 (.slice A7 n7 c7)<readV wr (.slice A2 n2 c2) by rw [h7.read,HR.out];exact hyp);clear h6 h7 hb7 hyp TD HR HX;go_wp2;go_roundw
    case rel=>exact ⟨A2,n2,c2,A7,n7,c7,y,x % y,rfl,rfl,HN.out⟩
    case measure=>exact HM.out
def RetD (w:World) (y:Int) (e:Ending) (w':World):Prop :=
 ∃ A1 k1 c1 A2 k2 c2,e=.returned (.tuple #[.agg #[.bool (decide (y<0)),.slice A1 k1 c1],.agg #[.bool false,.slice A2 k2 c2],.int .i64 0])∧k1≤c1∧Wat w' A1 k1 (digs y.natAbs)∧Fresh w.heap.size w' A1 k1∧Below w.heap.size w w'
theorem retD_close {w w2:World} {A A':Option Addr} {k c k' c':Nat} {z:Int} (hb:Below w.heap.size w w2) (hk:k≤c)
  (hW:Wat w2 A k (digs z.natAbs)) (hF:Fresh (w.heap.size+1+1+1+1) w2 A k) {x y x' y':Value} (hB2:Blk w2 (w.heap.size+1+1) 40 #[x,y]) (hB3:Blk w2 (w.heap.size+1+1+1) 40 #[x',y']) :
  RetD w z (.returned (.tuple #[.agg #[.bool (decide (z<0)),.slice A k c],.agg #[.bool false,.slice A' k' c'],.int .i64 0])) ((((w2.setCell ⟨w.heap.size+1+1,0,none⟩ (.bool (decide (z<0)))).setCell ⟨w.heap.size+1+1,1,none⟩ (.slice A k c)).setCell ⟨w.heap.size+1+1+1,0,none⟩ (.bool false)).setCell ⟨w.heap.size+1+1+1,1,none⟩ (.slice A' k' c')) ∧
  Blk ((((w2.setCell ⟨w.heap.size+1+1,0,none⟩ (.bool (decide (z<0)))).setCell ⟨w.heap.size+1+1,1,none⟩ (.slice A k c)).setCell ⟨w.heap.size+1+1+1,0,none⟩ (.bool false)).setCell ⟨w.heap.size+1+1+1,1,none⟩ (.slice A' k' c')) (w.heap.size+1+1) 40 #[.bool (decide (z<0)),.slice A k c] ∧
  Blk ((((w2.setCell ⟨w.heap.size+1+1,0,none⟩ (.bool (decide (z<0)))).setCell ⟨w.heap.size+1+1,1,none⟩ (.slice A k c)).setCell ⟨w.heap.size+1+1+1,0,none⟩ (.bool false)).setCell ⟨w.heap.size+1+1+1,1,none⟩ (.slice A' k' c')) (w.heap.size+1+1+1) 40 #[.bool false,.slice A' k' c']:=by
 have hW1:=hW.setFar (base:=w.heap.size+1+1+1+1) hF (p:=⟨w.heap.size+1+1,0,none⟩) (by simp) (.bool (decide (z<0)));have hF1:=hF.set ⟨w.heap.size+1+1,0,none⟩ (.bool (decide (z<0)));have hW2:=hW1.setFar hF1 (p:=⟨w.heap.size+1+1,1,none⟩) (by simp) (.slice A k c);have hF2:=hF1.set ⟨w.heap.size+1+1,1,none⟩ (.slice A k c);have hW3:=hW2.setFar hF2 (p:=⟨w.heap.size+1+1+1,0,none⟩) (by simp) (.bool false);have hF3:=hF2.set ⟨w.heap.size+1+1+1,0,none⟩ (.bool false);have hW4:=hW3.setFar hF3 (p:=⟨w.heap.size+1+1+1,1,none⟩) (by simp) (.slice A' k' c');have hF4:=hF3.set ⟨w.heap.size+1+1+1,1,none⟩ (.slice A' k' c');refine ⟨⟨A,k,c,A',k',c',rfl,hk,hW4,hF4.mono (by omega),below_set2 (below_set2 hb (by omega) _ _) (by omega) _ _⟩,?_,?_⟩
 ·exact ((hB2.set2 _ _).far (by simp) _).far (by simp) _
 ·exact ((hB3.far (by simp) _).far (by simp) _).set2 _ _
theorem rdiv_z (an:Bool) (A B:Option Addr) (n c m d:Nat) (za y:Int) (b:Nat) (w:World) (h:ZK w an A n za) (h':ZK w false B m (b:Int)) (hb0:b≠0) (hdv:b ∣ za.natAbs) (hy:sg an (za.natAbs / b)=y) :
  Calls Tryz.prog 179 #[.agg #[.bool an,.slice A n c],.agg #[.bool false,.slice B m d]] w (RetD w y):=by
 have hla:=h.len;have hlb:=h'.len;rw [Int.natAbs_natCast] at hlb;have HAB:=Hj (And.intro hla (And.intro hlb (And.intro hb0 (And.intro (Nat.mod_eq_zero_of_dvd hdv) hy))));go_enter Tryz.func179,Tryz.ntmps179
 go_wp2_with fail
 have hB0:=(((Blk.new w 40 #[.bool an,.slice A n c]).alloc (.cells #[.bool false,.slice B m d] 40)).alloc (.cells #[.bool false,.slice none 0 0] 40)).alloc (.cells #[.bool false,.slice none 0 0] 40);have hB1:=((Blk.new1 w (.cells #[.bool an,.slice A n c] 40) 40 #[.bool false,.slice B m d]).alloc (.cells #[.bool false,.slice none 0 0] 40)).alloc (.cells #[.bool false,.slice none 0 0] 40);have hB2:=(Blk.new2 w (.cells #[.bool an,.slice A n c] 40) (.cells #[.bool false,.slice B m d] 40) 40 #[.bool false,.slice none 0 0]).alloc (.cells #[.bool false,.slice none 0 0] 40);have hB3:=Blk.new3 w (.cells #[.bool an,.slice A n c] 40) (.cells #[.bool false,.slice B m d] 40) (.cells #[.bool false,.slice none 0 0] 40) 40 #[.bool false,.slice none 0 0];have hBW:Below w.heap.size w ((((w.alloc (.cells #[.bool an,.slice A n c] 40)).alloc (.cells #[.bool false,.slice B m d] 40)).alloc (.cells #[.bool false,.slice none 0 0] 40)).alloc (.cells #[.bool false,.slice none 0 0] 40)):=((((Below.refl _ _).alloc (Nat.le_refl _) _).alloc (by simp only [World.size_alloc];omega) _).alloc (by simp only [World.size_alloc];omega) _).alloc (by simp only [World.size_alloc];omega) _;have hsz:((((w.alloc (.cells #[.bool an,.slice A n c] 40)).alloc (.cells #[.bool false,.slice B m d] 40)).alloc (.cells #[.bool false,.slice none 0 0] 40)).alloc (.cells #[.bool false,.slice none 0 0] 40)).heap.size=w.heap.size+1+1+1+1:=by simp
 generalize (((w.alloc (.cells #[.bool an,.slice A n c] 40)).alloc (.cells #[.bool false,.slice B m d] 40)).alloc (.cells #[.bool false,.slice none 0 0] 40)).alloc (.cells #[.bool false,.slice none 0 0] 40)=W at *;have HSZ:=Hj hsz;clear hsz;have TA:=Hj (h.ta (c:=c) hBW);have TB:=Hj (h'.ta (c:=d) hBW);rw [Int.natAbs_natCast] at TB;generalize za.natAbs=a at *;clear h h' hla hlb hb0 hdv hy
 go_upto_region 1 with fail
 have hS:∀ w',Kp W w'→(w'.cell? ⟨w.heap.size,1,none⟩=some (.slice A n c)∧w'.cell? ⟨w.heap.size+1,1,none⟩=some (.slice B m d))∧Kp W w':=fun w' hk=>⟨⟨(hk.blk hB0).cell 1,(hk.blk hB1).cell 1⟩,hk⟩;have HS:=Hj hS;have s5:=Kp.refl W;clear hS
 go_cut [7,8] (fun s t wx=>∃ A1 n1 c1 A2 n2 c2,s=.slice A1 n1 c1∧t=.slice A2 n2 c2∧Hid (Kp W wx∧HA wx A1 n1 c1 a∧HA wx A2 n2 c2 b))
 case first =>
  go_region_held3 (fun w'=>(w'.cell? ⟨w.heap.size,1,none⟩=some (.slice A n c)∧w'.cell? ⟨w.heap.size+1,1,none⟩=some (.slice B m d))∧Kp W w')
   (with_reducible first|(refine HS.out _ ?_;assumption)|(refine HS.out _ (Kp.drew ?_);assumption)|(refine' HS.out _ (Kp.drew (And.right ?_));rotate_left;assumption))
   (first
    | (go_at_call_of 186 (Value.slice A n c);have hk:=And.right ‹_∧Kp W _›;refine (TA.out _ hk).mono ?_;rintro e v4 ⟨A4,n4,c4,rfl,hI4,hb4⟩;have hp4:=Kp.trans hk hb4;(try have hI5:=hI5.below hb4);clear hk)
    | (go_at_call_of 186 (Value.slice B m d);have hk:=And.right ‹_∧Kp W _›;refine (TB.out _ hk).mono ?_;rintro e v5 ⟨A5,n5,c5,rfl,hI5,hb5⟩;have hp5:=Kp.trans hk hb5;(try have hI4:=hI4.below hb5);clear hk))
  all_goals
   (try go_wp2_with fail)
   go_meet
   first
    | exact ⟨A4,n4,c4,A5,n5,c5,rfl,rfl,Hj ⟨hp5,hI4,hI5⟩⟩
    | exact ⟨A4,n4,c4,A5,n5,c5,rfl,rfl,Hj ⟨hp4,hI4,hI5⟩⟩
 case rest =>
  obtain ⟨A1,n1,c1,A2,n2,c2,rfl,rfl,HV⟩:=hcut;generalize wc=V at *;have hn2:n2≠0:=fun h=>HAB.out.2.2.1 (HV.out.2.2.zero.1 h);have e1:((n2:Int) == 0)=false:=by simp;omega
  have e2:(n2 == 0)=false:=by simp;omega
  have TD:=Hj (div_ra A1 A2 n1 c1 n2 c2 a b V HV.out.2.1 HV.out.2.2 (Nat.pos_of_ne_zero HAB.out.2.2.1) (by rw [HV.out.2.1.1];have:=HAB.out.1;omega) (by rw [HV.out.2.2.1];have:=HAB.out.2.1;omega));have HB0:=Hj (Kp.blk HV.out.1 hB0);have HB1:=Hj (Kp.blk HV.out.1 hB1);have HB2:=Hj (Kp.blk HV.out.1 hB2);have HB3:=Hj (Kp.blk HV.out.1 hB3);have HBW:=Hj (hBW.trans (Below.mono HV.out.1 hBW.size));have HSV:=Hj (show w.heap.size+1+1+1+1≤V.heap.size by have:=HSZ.out;have:=Below.size HV.out.1;omega);clear TA TB HS s5 hB0 hB1 hB2 hB3 hBW HV hn2
  go_wp2_with fail
  refine TD.out.mono ?_;rintro e v7 ⟨A6,n6,c6,A7,n7,c7,rfl,h6,h7,hb7⟩;rw [HAB.out.2.2.2.1] at h7;obtain rfl:n7=0:=h7.zero.2 rfl;have hl6:n6≤6000000000:=by rw [h6.1];exact Nat.le_trans (hd_len_mono (Nat.div_le_self a b)) HAB.out.1
  have TQ:=Hj (fun (W':World) (hW:Kp v7 W')=>of_any an A6 n6 c6 (a / b) W' (h6.below hW).ra (by omega));rw [HAB.out.2.2.2.2] at TQ;have TR:=Hj (fun (W':World) (hW:Kp v7 W')=>of_any false A7 0 c7 0 W' (h7.below hW).ra (by omega));simp only [show sg false 0=((0:Nat):Int) from rfl] at TR;have hB0:=HB0.out.below hb7 HB0.out.lt;have hB1:=HB1.out.below hb7 HB1.out.lt;have hB2:=HB2.out.below hb7 HB2.out.lt;have hB3:=HB3.out.below hb7 HB3.out.lt;have HBW7:=Hj (HBW.out.trans (hb7.mono HBW.out.size));have HSV7:=Hj (Nat.le_trans HSV.out hb7.size);obtain ⟨p0,p1,-,-⟩:=hB0.two;obtain ⟨p2,p3,-,-⟩:=hB1.two;have g1:decide ((0:Int)<((0:Nat):Int))=false:=by decide
  clear h6 h7 hl6 hb7 HB0 HB1 HB2 HB3 HBW TD e1 e2 hB0 hB1 HSV HAB;cases an
  all_goals
   go_wp2_with fail
   refine (TQ.out _ (Kp.refl _)).mono ?_;rintro e v8 ⟨A8,k8,c8,rfl,hk8,hW8,hF8,hb8⟩
   go_wp2_with fail
   refine (TR.out _ hb8).mono ?_;intro e v9 hr9;obtain ⟨A9,k9,c9,rfl,hk9,hW9,hF9,hb9⟩:=hr9.toN;have hb79:Below v7.heap.size v7 v9:=hb8.trans (hb9.mono hb8.size);have g2:=hB2.below hb79 hB2.lt;have g3:=hB3.below hb79 hB3.lt;obtain ⟨d0,d1,f0,f1⟩:=g2.two;obtain ⟨d2,d3,f2,f3⟩:=g3.two;obtain ⟨q1,q2,q3⟩:=retD_close (A':=A9) (k':=k9) (c':=c9) (HBW7.out.trans (hb79.mono HBW7.out.size)) hk8 (hW8.below hb9) ((hF8.keep hW8 hb9).mono HSV7.out) g2 g3;have D0:=Hj (q2.cell 0);have D1:=Hj (q2.cell 1);have D2:=Hj (q3.cell 0);have D3:=Hj (q3.cell 1);have HF:=Hj q1;clear q1 q2 q3 hb79 hb9 hb8 hW8 hF8 hW9 hF9 g2 g3 hB2 hB3 hr9 TQ TR;go_wp2;refine bodyPost_ret (v:=_) ?_ rfl HF.out;have d0:=D0.out;have d1:=D1.out;have d2:=D2.out;have d3:=D3.out;simp at d0 d1 d2 d3;simp [results,Tryz.results179,go_sem,d0,d1,d2,d3]
theorem rcmp_z (A B:Option Addr) (n c m d a b:Nat) (w:World) (h:ZK w false A n (a:Int)) (h':ZK w false B m (b:Int)) (ha:0<a) (hb:0<b) :
  Calls Tryz.prog 180 #[.agg #[.bool false,.slice A n c],.agg #[.bool false,.slice B m d]] w fun e w'=>e=.returned (.int .i64 (cmpN a b))∧Below w.heap.size w w':=by
 have hla:=h.len;have hlb:=h'.len;rw [Int.natAbs_natCast] at hla hlb;have TC:=Hj (fun (W:World) (A1:Option Addr) (n1 c1:Nat) (A2:Option Addr) (n2 c2:Nat) (h1:HA W A1 n1 c1 a) (h2:HA W A2 n2 c2 b)=>cmp_ra A1 A2 n1 c1 n2 c2 a b W h1.ra h2.ra (by rw [h1.1];omega) (by rw [h2.1];omega));go_enter Tryz.func180,Tryz.ntmps180
 go_wp2_with fail
 obtain ⟨hB0,hB1,hBW,hsz⟩:=pre2 w 40 #[.bool false,.slice A n c] 40 #[.bool false,.slice B m d];generalize (w.alloc (.cells #[.bool false,.slice A n c] 40)).alloc (.cells #[.bool false,.slice B m d] 40)=W at *;have HSZ:=Hj hsz;clear hsz;have TA:=Hj (h.ta (c:=c) hBW);have TB:=Hj (h'.ta (c:=d) hBW);rw [Int.natAbs_natCast] at TA TB;have SA:=Hj (fun W' (hW:Kp W W')=>rsign_z false A n c (a:Int) W' (h.below (hBW.trans (Below.mono hW hBW.size))));have SB:=Hj (fun W' (hW:Kp W W')=>rsign_z false B m d (b:Int) W' (h'.below (hBW.trans (Below.mono hW hBW.size))));rw [cmpI_gt (show (0:Int)<(a:Int) by omega)] at SA;rw [cmpI_gt (show (0:Int)<(b:Int) by omega)] at SB;have s5:=Kp.refl W;have HBW:=Hj hBW;clear h h' hla hlb ha hb hBW;have hS:∀ w',Kp W w'→(w'.cell? ⟨w.heap.size,0,none⟩=some (.bool false)∧w'.cell? ⟨w.heap.size,1,none⟩=some (.slice A n c)∧w'.cell? ⟨w.heap.size+1,0,none⟩=some (.bool false)∧w'.cell? ⟨w.heap.size+1,1,none⟩=some (.slice B m d))∧Kp W w':=fun w' hk=>⟨⟨(hk.blk hB0).cell 0,(hk.blk hB0).cell 1,(hk.blk hB1).cell 0,(hk.blk hB1).cell 1⟩,hk⟩;have HS:=Hj hS;clear hS
 go_region_held3 (fun w'=>(w'.cell? ⟨w.heap.size,0,none⟩=some (.bool false)∧w'.cell? ⟨w.heap.size,1,none⟩=some (.slice A n c)∧w'.cell? ⟨w.heap.size+1,0,none⟩=some (.bool false)∧w'.cell? ⟨w.heap.size+1,1,none⟩=some (.slice B m d))∧Kp W w')
  (with_reducible first|(refine HS.out _ ?_;assumption)|(refine HS.out _ (Kp.drew ?_);assumption)|(refine' HS.out _ (Kp.drew (And.right ?_));rotate_left;assumption))
  (first
   | (go_at_call_of 156 (Value.agg #[Value.bool false,Value.slice A n c]);have hk:=And.right ‹_∧Kp W _›;refine (SA.out _ hk).mono ?_;rintro e v4 ⟨rfl,hb⟩;have hp:=Kp.trans hk hb;clear hk hb)
   | (go_at_call_of 156 (Value.agg #[Value.bool false,Value.slice B m d]);have hk:=And.right ‹_∧Kp W _›;refine (SB.out _ hk).mono ?_;rintro e v5 ⟨rfl,hb⟩;have hp:=Kp.trans hk hb;clear hk hb))
 all_goals
  clear HS
  go_wp2_with fail
  have hS:∀ w',Kp W w'→(w'.cell? ⟨w.heap.size,1,none⟩=some (.slice A n c)∧w'.cell? ⟨w.heap.size+1,1,none⟩=some (.slice B m d))∧Kp W w':=fun w' hk=>⟨⟨(hk.blk hB0).cell 1,(hk.blk hB1).cell 1⟩,hk⟩;have HS2:=Hj hS;clear hS
  go_region_held3 (fun w'=>(w'.cell? ⟨w.heap.size,1,none⟩=some (.slice A n c)∧w'.cell? ⟨w.heap.size+1,1,none⟩=some (.slice B m d))∧Kp W w')
   (with_reducible first|(refine HS2.out _ ?_;assumption)|(refine HS2.out _ (Kp.drew ?_);assumption)|(refine' HS2.out _ (Kp.drew (And.right ?_));rotate_left;assumption))
   (first
    | (go_at_call_of 186 (Value.slice A n c);have hk:=And.right ‹_∧Kp W _›;refine (TA.out _ hk).mono ?_;rintro e v4 ⟨A4,n4,c4,rfl,hI4,hb4⟩;have hp:=Kp.trans hk hb4;(try have hI5:=hI5.below hb4);clear hk hb4)
    | (go_at_call_of 186 (Value.slice B m d);have hk:=And.right ‹_∧Kp W _›;refine (TB.out _ hk).mono ?_;rintro e v5 ⟨A5,n5,c5,rfl,hI5,hb5⟩;have hp:=Kp.trans hk hb5;(try have hI4:=hI4.below hb5);clear hk hb5)
    | (go_at_call 188;have hk:=And.right ‹_∧Kp W _›;refine (TC.out _ _ _ _ _ _ _ hI4 hI5).mono ?_;rintro e v9 ⟨rfl,hv9⟩;rw [hv9];clear hv9))
  all_goals
   clear HS2;have hB0':=hp.blk hB0;obtain ⟨p0,p1,-,-⟩:=hB0'.two
   go_wp2_with fail
   refine (SA.out _ hp).mono ?_;rintro e v9 ⟨rfl,hb9⟩;have HF:=Hj (HBW.out.trans ((Below.mono hp HBW.out.size).trans (hb9.mono (Nat.le_trans HBW.out.size (Below.size hp)))));clear hb9 hp hB0' hB0 hB1 p0 p1 hI4 hI5;go_wp2;go_ret;exact ⟨rfl,HF.out⟩
def QZ (w:World) (an:Bool) (A:Option Addr) (n:Nat) (bn:Bool) (B:Option Addr) (m:Nat) (na da:Int):Prop:=ZK w an A n na∧ZK w bn B m da
theorem QZ.below {w w':World} {an bn:Bool} {A B:Option Addr} {n m:Nat} {na da:Int} (h:QZ w an A n bn B m na da) (hb:Below w.heap.size w w'):QZ w' an A n bn B m na da:=⟨h.1.below hb,h.2.below hb⟩
theorem rone_z (w:World):Calls Tryz.prog 181 #[] w (RetN w 1):=by
 have T:=Hj (fun W=>rfrom_any 1 W (by decide) (by decide));go_enter Tryz.func181,Tryz.ntmps181
 go_wp2_with fail
 obtain ⟨hB0,hBW,hsz⟩:=pre1 w 40 #[.bool false,.slice none 0 0];generalize w.alloc (.cells #[.bool false,.slice none 0 0] 40)=W at *;have HSZ:=Hj hsz;clear hsz;have hr1:=RS.start hB0;refine (T.out _).mono ?_;intro e w3 hr;obtain ⟨A3,k3,c3,rfl,hk3,hW3,hF3,hb3⟩:=RetZ.toN (v:=1) hr;have hr3:=hr1.call hb3;obtain ⟨_,_,c0,c1,f0,f1⟩:=hr3.two;have hfin:=(retZ_close (z:=((1:Nat):Int)) hBW (by omega) (by have:=HSZ.out;omega) hr3 hk3 hW3 hF3).toN;simp only [show decide (((1:Nat):Int)<0)=false by decide] at hfin;obtain ⟨d0,d1,-,-⟩:=(hr3.done (.bool false) (.slice A3 k3 c3)).two;have HF:=Hj hfin;clear hfin hr hr1 hr3 hW3 hF3 hb3 T;go_wp2;refine bodyPost_ret (v:=.agg #[.bool false,.slice A3 k3 c3]) ?_ rfl HF.out;simp [results,Tryz.results181,go_sem,d0,d1]
theorem rden_z (an bn:Bool) (A B:Option Addr) (n c m d:Nat) (na da:Int) (w:World) (h:QZ w an A n bn B m na da) :
  Calls Tryz.prog 130 #[.agg #[.bool an,.slice A n c,.bool bn,.slice B m d]] w (RetN w (qden da).natAbs):=by
 go_enter Tryz.func130,Tryz.ntmps130
 go_wp2_with fail
 obtain ⟨hB0,hB1,hBW,hsz⟩:=pre2 w 42 #[.bool an,.slice A n c,.bool bn,.slice B m d] 40 #[.bool false,.slice none 0 0];generalize (w.alloc (.cells #[.bool an,.slice A n c,.bool bn,.slice B m d] 42)).alloc (.cells #[.bool false,.slice none 0 0] 40)=W at *;have HSZ:=Hj hsz;clear hsz;have T:=Hj (fun W' (hW:Kp W W')=>rsign_z bn B m d da W' (h.2.below (hBW.trans (Below.mono hW hBW.size))));have TA:=Hj (fun W' (hW:Kp W W')=>rabs_z bn B m d da W' (h.2.below (hBW.trans (Below.mono hW hBW.size))));have TO:=Hj (fun W'=>rone_z W');obtain ⟨p0,p1,p2,p3,-,-,-,-⟩:=hB0.four;clear h
 go_wp2_with fail
 refine (T.out _ (Kp.refl W)).mono ?_;rintro e w1 ⟨rfl,hb1⟩;have hr1:=(RS.start hB1).call hb1;have hB0:=hB0.below hb1 hB0.lt;obtain ⟨p0,p1,p2,p3,-,-,-,-⟩:=hB0.four;have HK1:=Hj (show Kp W w1 from hb1);have HBW:=Hj hBW;clear hb1 T hB0 hB1 hBW;by_cases h0:da=0
 ·subst h0;rw [show cmpI (0:Int) 0=0 from rfl,show (qden 0).natAbs=1 from rfl]
  go_wp2_with fail
  refine (TO.out _).mono ?_;rintro e w3 ⟨A3,k3,c3,rfl,hk3,hW3,hF3,hb3⟩;have hr3:=hr1.call hb3;obtain ⟨_,_,c0,c1,f0,f1⟩:=hr3.two;have hfin:=(retZ_close (z:=((1:Nat):Int)) HBW.out (by omega) (by have:=HSZ.out;have:=Below.size HK1.out;omega) hr3 hk3 hW3 hF3).toN;simp only [show decide (((1:Nat):Int)<0)=false by decide] at hfin;obtain ⟨d0,d1,-,-⟩:=(hr3.done (.bool false) (.slice A3 k3 c3)).two;have HF:=Hj hfin;clear hfin hr1 hr3 hW3 hF3 hb3 TA TO;go_wp2;refine bodyPost_ret (v:=.agg #[.bool false,.slice A3 k3 c3]) ?_ rfl HF.out;simp [results,Tryz.results130,go_sem,d0,d1]
 ·have hq:(qden da).natAbs=da.natAbs:=by unfold qden;rw [if_neg h0];split<;>omega
  have d1:(cmpI da 0 == 0)=false:=by unfold cmpI;split<;>(try split)<;>simp_all;omega
  generalize cmpI da 0=sv at *;have TA1:=Hj (TA.out w1 HK1.out);generalize da.natAbs=v at *;have HQ:=Hj hq;clear hq h0 TA
  go_wp2_with fail
  refine TA1.out.mono ?_;intro e w3 hr;obtain ⟨A3,k3,c3,rfl,hk3,hW3,hF3,hb3⟩:=RetZ.toN (v:=v) hr;have hr3:=hr1.call hb3;obtain ⟨_,_,c0,c1,f0,f1⟩:=hr3.two;have hfin:=(retZ_close (z:=((v:Nat):Int)) HBW.out (by omega) (by have:=HSZ.out;have:=Below.size HK1.out;omega) hr3 hk3 hW3 hF3).toN;simp only [show decide (((v:Nat):Int)<0)=false by simp] at hfin;obtain ⟨d0,d1,-,-⟩:=(hr3.done (.bool false) (.slice A3 k3 c3)).two;have HF:=Hj hfin;clear hfin hr hr1 hr3 hW3 hF3 hb3 TA1 TO;go_wp2;refine bodyPost_ret (v:=.agg #[.bool false,.slice A3 k3 c3]) ?_ rfl (by rw [HQ.out];exact HF.out);simp [results,Tryz.results130,go_sem,d0,d1]
theorem rnum_z (an bn:Bool) (A B:Option Addr) (n c m d:Nat) (na da:Int) (w:World) (h:QZ w an A n bn B m na da) :
  Calls Tryz.prog 129 #[.agg #[.bool an,.slice A n c,.bool bn,.slice B m d]] w (RetZ w (qnum na da)):=by
 go_enter Tryz.func129,Tryz.ntmps129
 go_wp2_with fail
 obtain ⟨hB0,hB1,hBW,hsz⟩:=pre2 w 42 #[.bool an,.slice A n c,.bool bn,.slice B m d] 40 #[.bool false,.slice none 0 0];generalize (w.alloc (.cells #[.bool an,.slice A n c,.bool bn,.slice B m d] 42)).alloc (.cells #[.bool false,.slice none 0 0] 40)=W at *;have HSZ:=Hj hsz;clear hsz;have T:=Hj (fun W' (hW:Kp W W')=>rsign_z bn B m d da W' (h.2.below (hBW.trans (Below.mono hW hBW.size))));have TA:=Hj (fun W' (hW:Kp W W')=>rneg_z an A n c na W' (h.1.below (hBW.trans (Below.mono hW hBW.size))));have TO:=Hj (fun W' (hW:Kp W W')=>rleast_z an A n c na W' (h.1.below (hBW.trans (Below.mono hW hBW.size))));obtain ⟨p0,p1,p2,p3,-,-,-,-⟩:=hB0.four;clear h
 go_wp2_with fail
 refine (T.out _ (Kp.refl W)).mono ?_;rintro e w1 ⟨rfl,hb1⟩;have hr1:=(RS.start hB1).call hb1;have hB0:=hB0.below hb1 hB0.lt;obtain ⟨p0,p1,p2,p3,-,-,-,-⟩:=hB0.four;have HK1:=Hj (show Kp W w1 from hb1);have HBW:=Hj hBW;clear hb1 T hB0 hB1 hBW;by_cases h0:da<0
 ·have hq:qnum na da = -na:=by unfold qnum;rw [if_pos h0]
  have d1:decide (cmpI da 0<0)=true:=by rw [cmpI_lt h0];decide
  have T1:=Hj (TA.out w1 HK1.out);generalize -na=y at *;generalize cmpI da 0=sv at *;have HQ:=Hj hq;clear hq h0 TA TO
  go_wp2_with fail
  refine T1.out.mono ?_;rintro e w3 ⟨A3,k3,c3,rfl,hk3,hW3,hF3,hb3⟩;have hr3:=hr1.call hb3;obtain ⟨_,_,c0,c1,f0,f1⟩:=hr3.two;have hfin:=retZ_close HBW.out (by omega) (by have:=HSZ.out;have:=Below.size HK1.out;omega) hr3 hk3 hW3 hF3;generalize decide (y<0)=sb at *;obtain ⟨d0,d1,-,-⟩:=(hr3.done (.bool sb) (.slice A3 k3 c3)).two;have HF:=Hj hfin;clear hfin hr1 hr3 hW3 hF3 hb3 T1;go_wp2;refine bodyPost_ret (v:=.agg #[.bool sb,.slice A3 k3 c3]) ?_ rfl (by rw [HQ.out];exact HF.out);simp [results,Tryz.results129,go_sem,d0,d1]
 ·have hq:qnum na da=na:=by unfold qnum;rw [if_neg h0]
  have d1:decide (cmpI da 0<0)=false:=by unfold cmpI;rw [if_neg h0];split<;>decide
  have T1:=Hj (TO.out w1 HK1.out);obtain ⟨y,hy⟩:∃ y,y=na:=⟨_,rfl⟩;replace hq:qnum na da=y:=by rw [hq,hy]
  rw [← hy] at T1;clear hy;generalize cmpI da 0=sv at *;have HQ:=Hj hq;clear hq h0 TA TO
  go_wp2_with fail
  refine T1.out.mono ?_;rintro e w3 ⟨A3,k3,c3,rfl,hk3,hW3,hF3,hb3⟩;have hr3:=hr1.call hb3;obtain ⟨_,_,c0,c1,f0,f1⟩:=hr3.two;have hfin:=retZ_close HBW.out (by omega) (by have:=HSZ.out;have:=Below.size HK1.out;omega) hr3 hk3 hW3 hF3;generalize decide (y<0)=sb at *;obtain ⟨d0,d1,-,-⟩:=(hr3.done (.bool sb) (.slice A3 k3 c3)).two;have HF:=Hj hfin;clear hfin hr1 hr3 hW3 hF3 hb3 T1;go_wp2;refine bodyPost_ret (v:=.agg #[.bool sb,.slice A3 k3 c3]) ?_ rfl (by rw [HQ.out];exact HF.out);simp [results,Tryz.results129,go_sem,d0,d1]
end Go.Proofs.YtjajigkacccdgaaGreat
