/-
Lemmas of the walk; no further conditions.
-/
import Derived.Test.YtjajigkacccdgaaGreatTiBD
import Derived.Deep.DrawnRows
import Derived.Test.YtjajigkacccdgaaGreatRows
import Derived.WalkKit
import Derived.ProofKit
import Derived.OpenShut
import Derived.Carry
import Derived.WideKeyArgs
import Derived.Deep.Slices
set_option linter.unusedVariables false
set_option linter.unusedSimpArgs false
set_option maxRecDepth 100000
set_option maxHeartbeats 16000000
namespace Go.Proofs.YtjajigkacccdgaaGreat
open Go.RowKit
open Wd
def wrC (lv:List St.Lv) (q:Rat):Int:=if chkL lv≠0 then chkL lv else if q<0∨((totI lv:Int):Rat)<q then 1 else 0
theorem rwrong_any (A:Option Addr) (m c:Nat) (lv:List St.Lv) (w:World) (h:LsAt w A m lv) (an an':Bool) (aA aA':Option Addr) (ak ac ak' ac':Nat) (q:Rat) (hq:QS 7 w an aA ak ac an' aA' ak' ac' q) :
  Calls Tryz.prog 75 #[.slice A m c,.agg #[.bool an,.slice aA ak ac,.bool an',.slice aA' ak' ac']] w fun e w'=>e=.returned (.int .i64 (wrC lv q))∧Below w.heap.size w w':=by
 have CC:=fun W (hW:Below w.heap.size w W)=>rchkl_any A m c lv W (h.below hW);by_cases hc:chkL lv=0
 ·have SM:=fun W (hW:Below w.heap.size w W)=>rtotal_any A m c lv W (h.below hW);have ht:totL lv=totI lv:=by rw [totL,if_pos hc]
  rw [ht] at SM;have hbd:=tot_bd lv (chkL_qty hc);have hln:=(chkL_ok hc).1;have hwr:wrC lv q=if q<0∨((totI lv:Int):Rat)<q then 1 else 0:=by rw [wrC,if_neg (by rw [hc];decide)]
  rw [hc] at CC;have SG:=fun W (hW:Below w.heap.size w W)=>rsignq_s (s:=7) (by decide) an an' aA aA' ak ac ak' ac' q W (hq.below hW);have FI:=fun W=>rint_any (totI lv) W (by omega) (by omega);have hl3:Ls 7 ((totI lv:Int):Rat):=(ls_int (Nat.le_refl 3) (by omega)).mono (by decide);have CM:=fun (W:World) (hW:Below w.heap.size w W) (B:Option Addr) (k d:Nat) (B':Option Addr) (k' d':Nat) (h:RQ W ((totI lv:Int):Rat) B k d B' k' d')=>rcmpq_s (s:=7) (by decide) an an' _ false aA aA' B B' ak ac ak' ac' k d k' d' q _ W (hq.below hW) (h.qs hl3 (by decide));clear hl3;generalize wrC lv q=r at *;generalize totI lv=sl at *;generalize ((sl:Int):Rat)=qs at *;by_cases hneg:q<0
  ·have hsg:decide (sgnQ q<0)=true:=by
    have:=(num_ltW q).1 hneg;unfold sgnQ;rw [cmpI_lt this];decide
   have HE:=Hj (hwr.trans (if_pos (.inl hneg)));generalize sgnQ q=sq at *;have SG:=Hj SG;have CC:=Hj CC;clear SM FI CM h hq hneg hwr hbd hln ht hc;go_enter Tryz.func75,Tryz.ntmps75
   go_wp2_with fail
   have hB0:=Blk.new w 42 #[.bool an,.slice aA ak ac,.bool an',.slice aA' ak' ac'];have hBW:Below w.heap.size w (w.alloc (.cells #[.bool an,.slice aA ak ac,.bool an',.slice aA' ak' ac'] 42)):=(Below.refl _ _).alloc (Nat.le_refl _) _;generalize w.alloc (.cells #[.bool an,.slice aA ak ac,.bool an',.slice aA' ak' ac'] 42)=W at *;refine (CC.out W hBW).mono ?_;rintro e w1 ⟨rfl,hb1⟩;have hB1:=hB0.below hb1 hB0.lt;have hBW1:Below w.heap.size w w1:=hBW.trans (hb1.mono hBW.size);have HBK:=Hj (show ∀ w',Kp w1 w'→Below w.heap.size w w' from fun w' hk=>hBW1.trans (Below.mono hk hBW1.size));clear hb1 hB0 hBW hBW1 CC
   go_wp2_with fail
   refine held_at (W:=w1) (C:=fun w'=>w'.cell? ⟨w.heap.size,0,none⟩=some (.bool an)∧w'.cell? ⟨w.heap.size,1,none⟩=some (.slice aA ak ac)∧w'.cell? ⟨w.heap.size,2,none⟩=some (.bool an')∧w'.cell? ⟨w.heap.size,3,none⟩=some (.slice aA' ak' ac')) (fun w' hk=>⟨(hk.blk hB1).cell 0,(hk.blk hB1).cell 1,(hk.blk hB1).cell 2,(hk.blk hB1).cell 3⟩) (Kp.refl w1) (fun HS hH0=>?_);refine tq 0 ?_;refine tq 1 ?_;refine tq 2 ?_;refine tq 3 ?_;refine rd1 4 fun K hK=>?_
   (try simp only [p1,p2,p3])
   go_simp;have hk:=And.right ‹_∧Kp w1 _›;refine (SG.out _ (HBK.out _ hk)).mono ?_;rintro e v1 ⟨rfl,hbx⟩;have hp:Kp w1 v1:=Kp.trans hk hbx;clear hk hbx
   (try (go_wp2_with fail))
   refine hK.out _ _ (HS.out _ hp) fun hH1=>?_;clear hK K hH0
   (try simp only [Act.put,p1,p2,p3,p4,p5,p6])
   refine tq 5 ?_;refine tq 6 ?_;refine tu 7 ?_;refine tu 8 ?_;refine tu 9 ?_;refine tu 10 ?_;refine tu 11 ?_;refine tu 12 ?_;refine tq 13 ?_;refine tq 14 ?_;refine wpAnyH_done (by kernel_rfl) ?_ _;clear hH1;have HF:=Hj (HBK.out _ hp);clear hp HS hB1;go_wp2;go_ret;exact ⟨by rw [HE.out];rfl,HF.out⟩
  ·have hsg:decide (sgnQ q<0)=false:=by
    have h1:¬ q.num<0:=fun hh=>hneg ((num_ltW q).2 hh);apply decide_eq_false;unfold sgnQ;rcases Int.lt_trichotomy q.num 0 with h2|h2|h2
    ·exact absurd h2 h1
    ·rw [h2];decide
    ·rw [cmpI_gt h2];decide
   have SG:=Hj SG;have CC:=Hj CC;have SM:=Hj SM;have FI:=Hj FI;have CM:=Hj CM;by_cases hx:qs<q
   ·have hcm:decide (0<cmpQ q qs)=true:=by
     apply decide_eq_true;rw [cmpQ_gt.2 hx];decide
    have HE:=Hj (hwr.trans (if_pos (.inr hx)));generalize sgnQ q=sq at *;generalize cmpQ q qs=cq at *;clear h hq hx hneg hwr hbd hln ht hc;go_enter Tryz.func75,Tryz.ntmps75
    go_wp2_with fail
    have hB0:=Blk.new w 42 #[.bool an,.slice aA ak ac,.bool an',.slice aA' ak' ac'];have hBW:Below w.heap.size w (w.alloc (.cells #[.bool an,.slice aA ak ac,.bool an',.slice aA' ak' ac'] 42)):=(Below.refl _ _).alloc (Nat.le_refl _) _;generalize w.alloc (.cells #[.bool an,.slice aA ak ac,.bool an',.slice aA' ak' ac'] 42)=W at *;refine (CC.out W hBW).mono ?_;rintro e w1 ⟨rfl,hb1⟩;have hB1:=hB0.below hb1 hB0.lt;have hBW1:Below w.heap.size w w1:=hBW.trans (hb1.mono hBW.size);have HBK:=Hj (show ∀ w',Kp w1 w'→Below w.heap.size w w' from fun w' hk=>hBW1.trans (Below.mono hk hBW1.size));clear hb1 hB0 hBW hBW1 CC
    go_wp2_with fail
    refine held_at (W:=w1) (C:=fun w'=>w'.cell? ⟨w.heap.size,0,none⟩=some (.bool an)∧w'.cell? ⟨w.heap.size,1,none⟩=some (.slice aA ak ac)∧w'.cell? ⟨w.heap.size,2,none⟩=some (.bool an')∧w'.cell? ⟨w.heap.size,3,none⟩=some (.slice aA' ak' ac')) (fun w' hk=>⟨(hk.blk hB1).cell 0,(hk.blk hB1).cell 1,(hk.blk hB1).cell 2,(hk.blk hB1).cell 3⟩) (Kp.refl w1) (fun HS hH0=>?_);refine tq 0 ?_;refine tq 1 ?_;refine tq 2 ?_;refine tq 3 ?_;refine rd1 4 fun K hK=>?_
    (try simp only [p1,p2,p3])
    go_simp;have hk:=And.right ‹_∧Kp w1 _›;refine (SG.out _ (HBK.out _ hk)).mono ?_;rintro e v1 ⟨rfl,hbx⟩;have hp:Kp w1 v1:=Kp.trans hk hbx;clear hk hbx
    (try (go_wp2_with fail))
    refine hK.out _ _ (HS.out _ hp) fun hH2=>?_;clear hK K hH0
    (try simp only [Act.put,p1,p2,p3,p4,p5,p6])
    refine tq 5 ?_;refine tq 6 ?_;refine tq 7 ?_;refine tq 8 ?_;refine rd1 9 fun K hK=>?_
    (try simp only [p1,p2,p3])
    go_simp;have hk:=And.right ‹_∧Kp w1 _›;refine (SM.out _ (HBK.out _ hk)).mono ?_;rintro e v2 ⟨rfl,hbx⟩;have hp:Kp w1 v2:=Kp.trans hk hbx;clear hk hbx
    (try (go_wp2_with fail))
    refine hK.out _ _ (HS.out _ hp) fun hH3=>?_;clear hK K hH2
    (try simp only [Act.put,p1,p2,p3,p4,p5,p6])
    refine rd1 10 fun K hK=>?_
    (try simp only [p1,p2,p3])
    go_simp;have hk:=And.right ‹_∧Kp w1 _›;refine (FI.out _).mono ?_;rintro e v3 ⟨A3,k3,c3,A4,k4,c4,rfl,hk3,hk4,hW3,hW4,-,-,hbx⟩;have hp:Kp w1 v3:=Kp.trans hk hbx;have hrq:=(show RQ v3 qs A3 k3 c3 A4 k4 c4 from ⟨hk3,hk4,hW3,hW4⟩);clear hk hbx hk3 hk4 hW3 hW4
    (try (go_wp2_with fail))
    refine hK.out _ _ (HS.out _ hp) fun hH4=>?_;clear hK K hH3
    (try simp only [Act.put,p1,p2,p3,p4,p5,p6])
    refine rd1 11 fun K hK=>?_
    (try simp only [p1,p2,p3])
    go_simp;have hk:=And.right ‹_∧Kp w1 _›;refine (CM.out _ (HBK.out _ hk) _ _ _ _ _ _ hrq).mono ?_;rintro e v4 ⟨rfl,hbx⟩;have hp:Kp w1 v4:=Kp.trans hk hbx;clear hk hbx hrq
    (try (go_wp2_with fail))
    refine hK.out _ _ (HS.out _ hp) fun hH5=>?_;clear hK K hH4
    (try simp only [Act.put,p1,p2,p3,p4,p5,p6])
    refine tq 12 ?_;refine tq 13 ?_;refine tq 14 ?_;refine wpAnyH_done (by kernel_rfl) ?_ _;clear hH5;have HF:=Hj (HBK.out _ hp);clear hp HS hB1;go_wp2;go_ret;exact ⟨by rw [HE.out];rfl,HF.out⟩
   ·have hcm:decide (0<cmpQ q qs)=false:=by
     apply decide_eq_false;intro h0;exact hx (cmpQ_gt.1 (by
      have:cmpQ q qs = -1∨cmpQ q qs=0∨cmpQ q qs=1:=by
       unfold cmpQ
       repeat' split
       all_goals simp
      omega))
    have HE:=Hj (hwr.trans (if_neg (fun hh=>hh.elim hneg hx)));generalize sgnQ q=sq at *;generalize cmpQ q qs=cq at *;clear h hq hx hneg hwr hbd hln ht hc;go_enter Tryz.func75,Tryz.ntmps75
    go_wp2_with fail
    have hB0:=Blk.new w 42 #[.bool an,.slice aA ak ac,.bool an',.slice aA' ak' ac'];have hBW:Below w.heap.size w (w.alloc (.cells #[.bool an,.slice aA ak ac,.bool an',.slice aA' ak' ac'] 42)):=(Below.refl _ _).alloc (Nat.le_refl _) _;generalize w.alloc (.cells #[.bool an,.slice aA ak ac,.bool an',.slice aA' ak' ac'] 42)=W at *;refine (CC.out W hBW).mono ?_;rintro e w1 ⟨rfl,hb1⟩;have hB1:=hB0.below hb1 hB0.lt;have hBW1:Below w.heap.size w w1:=hBW.trans (hb1.mono hBW.size);have HBK:=Hj (show ∀ w',Kp w1 w'→Below w.heap.size w w' from fun w' hk=>hBW1.trans (Below.mono hk hBW1.size));clear hb1 hB0 hBW hBW1 CC
    go_wp2_with fail
    refine held_at (W:=w1) (C:=fun w'=>w'.cell? ⟨w.heap.size,0,none⟩=some (.bool an)∧w'.cell? ⟨w.heap.size,1,none⟩=some (.slice aA ak ac)∧w'.cell? ⟨w.heap.size,2,none⟩=some (.bool an')∧w'.cell? ⟨w.heap.size,3,none⟩=some (.slice aA' ak' ac')) (fun w' hk=>⟨(hk.blk hB1).cell 0,(hk.blk hB1).cell 1,(hk.blk hB1).cell 2,(hk.blk hB1).cell 3⟩) (Kp.refl w1) (fun HS hH0=>?_);refine tq 0 ?_;refine tq 1 ?_;refine tq 2 ?_;refine tq 3 ?_;refine rd1 4 fun K hK=>?_
    (try simp only [p1,p2,p3])
    go_simp;have hk:=And.right ‹_∧Kp w1 _›;refine (SG.out _ (HBK.out _ hk)).mono ?_;rintro e v1 ⟨rfl,hbx⟩;have hp:Kp w1 v1:=Kp.trans hk hbx;clear hk hbx
    (try (go_wp2_with fail))
    refine hK.out _ _ (HS.out _ hp) fun hH6=>?_;clear hK K hH0
    (try simp only [Act.put,p1,p2,p3,p4,p5,p6])
    refine tq 5 ?_;refine tq 6 ?_;refine tq 7 ?_;refine tq 8 ?_;refine rd1 9 fun K hK=>?_
    (try simp only [p1,p2,p3])
    go_simp;have hk:=And.right ‹_∧Kp w1 _›;refine (SM.out _ (HBK.out _ hk)).mono ?_;rintro e v2 ⟨rfl,hbx⟩;have hp:Kp w1 v2:=Kp.trans hk hbx;clear hk hbx
    (try (go_wp2_with fail))
    refine hK.out _ _ (HS.out _ hp) fun hH7=>?_;clear hK K hH6
    (try simp only [Act.put,p1,p2,p3,p4,p5,p6])
    refine rd1 10 fun K hK=>?_
    (try simp only [p1,p2,p3])
    go_simp;have hk:=And.right ‹_∧Kp w1 _›;refine (FI.out _).mono ?_;rintro e v3 ⟨A3,k3,c3,A4,k4,c4,rfl,hk3,hk4,hW3,hW4,-,-,hbx⟩;have hp:Kp w1 v3:=Kp.trans hk hbx;have hrq:=(show RQ v3 qs A3 k3 c3 A4 k4 c4 from ⟨hk3,hk4,hW3,hW4⟩);clear hk hbx hk3 hk4 hW3 hW4
    (try (go_wp2_with fail))
    refine hK.out _ _ (HS.out _ hp) fun hH8=>?_;clear hK K hH7
    (try simp only [Act.put,p1,p2,p3,p4,p5,p6])
    refine rd1 11 fun K hK=>?_
    (try simp only [p1,p2,p3])
    go_simp;have hk:=And.right ‹_∧Kp w1 _›;refine (CM.out _ (HBK.out _ hk) _ _ _ _ _ _ hrq).mono ?_;rintro e v4 ⟨rfl,hbx⟩;have hp:Kp w1 v4:=Kp.trans hk hbx;clear hk hbx hrq
    (try (go_wp2_with fail))
    refine hK.out _ _ (HS.out _ hp) fun hH9=>?_;clear hK K hH8
    (try simp only [Act.put,p1,p2,p3,p4,p5,p6])
    refine tq 12 ?_;refine tq 13 ?_;refine tq 14 ?_;refine wpAnyH_done (by kernel_rfl) ?_ _;clear hH9;have HF:=Hj (HBK.out _ hp);clear hp HS hB1;go_wp2;go_ret;exact ⟨by rw [HE.out];rfl,HF.out⟩
 ·have HE:=Hj (show wrC lv q=chkL lv by rw [wrC,if_pos hc]);have hz:(chkL lv == 0)=false:=by simpa using hc
  generalize wrC lv q=r at *;generalize chkL lv=z at *;have CC:=Hj CC;clear h hq hc;go_enter Tryz.func75,Tryz.ntmps75
  go_wp2_with fail
  have hB0:=Blk.new w 42 #[.bool an,.slice aA ak ac,.bool an',.slice aA' ak' ac'];have hBW:Below w.heap.size w (w.alloc (.cells #[.bool an,.slice aA ak ac,.bool an',.slice aA' ak' ac'] 42)):=(Below.refl _ _).alloc (Nat.le_refl _) _;generalize w.alloc (.cells #[.bool an,.slice aA ak ac,.bool an',.slice aA' ak' ac'] 42)=W at *;refine (CC.out W hBW).mono ?_;rintro e w1 ⟨rfl,hb1⟩;have hB1:=hB0.below hb1 hB0.lt;have hBW1:Below w.heap.size w w1:=hBW.trans (hb1.mono hBW.size);have HBK:=Hj (show ∀ w',Kp w1 w'→Below w.heap.size w w' from fun w' hk=>hBW1.trans (Below.mono hk hBW1.size));clear hb1 hB0 hBW hBW1 CC
  go_wp2_with fail
  refine held_at (W:=w1) (C:=fun w'=>w'.cell? ⟨w.heap.size,0,none⟩=some (.bool an)∧w'.cell? ⟨w.heap.size,1,none⟩=some (.slice aA ak ac)∧w'.cell? ⟨w.heap.size,2,none⟩=some (.bool an')∧w'.cell? ⟨w.heap.size,3,none⟩=some (.slice aA' ak' ac')) (fun w' hk=>⟨(hk.blk hB1).cell 0,(hk.blk hB1).cell 1,(hk.blk hB1).cell 2,(hk.blk hB1).cell 3⟩) (Kp.refl w1) (fun HS hH0=>?_);refine tq 0 ?_;refine tq 1 ?_;refine tq 2 ?_;refine tu 3 ?_;refine tu 4 ?_;refine tu 5 ?_;refine tu 6 ?_;refine tu 7 ?_;refine tu 8 ?_;refine tu 9 ?_;refine tu 10 ?_;refine tu 11 ?_;refine tu 12 ?_;refine tu 13 ?_;refine tq 14 ?_;refine wpAnyH_done (by kernel_rfl) ?_ _;have hp:=And.right hH0;clear hH0;have HF:=Hj (HBK.out _ hp);clear hp HS hB1;go_wp2;go_ret;exact ⟨by rw [HE.out];rfl,HF.out⟩
theorem fill_bad (A:Option Addr) (m c:Nat) (lv:List St.Lv) (w:World) (h:LsAt w A m lv) (x:Int) (hx:chkL lv=x) (h0:x≠0) (an an':Bool) (aA aA':Option Addr) (ak ac ak' ac':Nat) :
  Calls Tryz.prog 84 #[.slice A m c,.agg #[.bool an,.slice aA ak ac,.bool an',.slice aA' ak' ac']] w fun e w'=>e=.returned (.tuple #[.slice none 0 0,.int .i64 x])∧Below w.heap.size w w':=by
 have CC:=Hj (fun W (hW:Below w.heap.size w W)=>(show Calls Tryz.prog 27 #[.slice A m c] W fun e w'=>e=.returned (.int .i64 x)∧Below W.heap.size W w' by rw [← hx];exact check_any A m c lv W (h.below hW)));have dx:(x != 0)=true:=by simpa using h0
 clear h hx h0;go_enter Tryz.func84,Tryz.ntmps84
 go_wp2_with fail
 obtain ⟨hB0,hBW,hsz⟩:=pre1 w 42 #[.bool an,.slice aA ak ac,.bool an',.slice aA' ak' ac'];generalize w.alloc (.cells #[.bool an,.slice aA ak ac,.bool an',.slice aA' ak' ac'] 42)=W at *;have HSZ:=Hj hsz;clear hsz;refine (CC.out W hBW).mono ?_;rintro e w1 ⟨rfl,hb1⟩;have HF:=Hj (hBW.trans (hb1.mono hBW.size));clear hb1 hB0 hBW CC;go_wp2;go_ret2;exact ⟨rfl,HF.out⟩
theorem fill_wr (A:Option Addr) (m c:Nat) (lv:List St.Lv) (w:World) (h:LsAt w A m lv) (an an':Bool) (aA aA':Option Addr) (ak ac ak' ac':Nat) (q:Rat) (hq:QArg w an aA ak ac an' aA' ak' ac' q) (x:Int) (hx:wrC lv q=x) (h0:x≠0) :
  Calls Tryz.prog 84 #[.slice A m c,.agg #[.bool an,.slice aA ak ac,.bool an',.slice aA' ak' ac']] w fun e w'=>e=.returned (.tuple #[.slice none 0 0,.int .i64 x])∧Below w.heap.size w w':=by
 by_cases hc:chkL lv=0
 ·obtain ⟨up,hv⟩:=chkL_VL hc;have hw:wrC lv q=if q<0∨((totI lv:Int):Rat)<q then 1 else 0:=by rw [wrC,if_neg (by rw [hc];decide)]
  by_cases hq2:q<0∨((totI lv:Int):Rat)<q
  ·obtain rfl:x=1:=by rw [← hx,hw,if_pos hq2]
   exact kfill_no up A m _ c lv w (h.lv hc) hv an an' aA aA' ak ac ak' ac' q hq hq2
  ·exact absurd (by rw [← hx,hw,if_neg hq2]) h0
 ·exact fill_bad A m c lv w h x (by rw [← hx,wrC,if_pos hc]) h0 an an' aA aA' ak ac ak' ac'
theorem share_wr (A:Option Addr) (m c:Nat) (lv:List St.Lv) (w:World) (h:LsAt w A m lv) (an an':Bool) (aA aA':Option Addr) (ak ac ak' ac':Nat) (q:Rat) (hq:QArg w an aA ak ac an' aA' ak' ac' q) (x:Int) (hx:wrC lv q=x) (h0:x≠0) :
  Calls Tryz.prog 31 #[.slice A m c,.agg #[.bool an,.slice aA ak ac,.bool an',.slice aA' ak' ac']] w fun e w'=>e=.returned (.tuple #[.slice none 0 0,.int .i64 x])∧Below w.heap.size w w':=by
 have TA:=Hj (fun W (hW:Below w.heap.size w W)=>fill_wr A m c lv W (h.below hW) an an' aA aA' ak ac ak' ac' q (hq.below hW) x hx h0);have dx:(x != 0)=true:=by simpa using h0
 clear h hq hx h0;go_enter Tryz.func31,Tryz.ntmps31
 go_wp2_with fail
 obtain ⟨hB0,hBW,hsz⟩:=pre1 w 42 #[.bool an,.slice aA ak ac,.bool an',.slice aA' ak' ac'];generalize w.alloc (.cells #[.bool an,.slice aA ak ac,.bool an',.slice aA' ak' ac'] 42)=W at *;have HSZ:=Hj hsz;clear hsz;refine (TA.out W hBW).mono ?_;rintro e w1 ⟨rfl,hb1⟩;have HF:=Hj (hBW.trans (hb1.mono hBW.size));clear hb1 hB0 hBW TA;go_wp2;go_ret2;exact ⟨rfl,HF.out⟩
theorem cost_wr (A:Option Addr) (m c:Nat) (lv:List St.Lv) (w:World) (h:LsAt w A m lv) (an an':Bool) (aA aA':Option Addr) (ak ac ak' ac':Nat) (q:Rat) (hq:QArg w an aA ak ac an' aA' ak' ac' q) (x:Int) (hx:wrC lv q=x) (h0:x≠0) :
  Calls Tryz.prog 32 #[.slice A m c,.agg #[.bool an,.slice aA ak ac,.bool an',.slice aA' ak' ac']] w (ErrQ w x):=by
 have TA:=Hj (fun W (hW:Below w.heap.size w W)=>fill_wr A m c lv W (h.below hW) an an' aA aA' ak ac ak' ac' q (hq.below hW) x hx h0);have dx:(x != 0)=true:=by simpa using h0
 unfold ErrQ;clear h hq hx h0;go_enter Tryz.func32,Tryz.ntmps32
 go_wp2_with fail
 obtain ⟨hB0,hB1,hBW,hsz⟩:=pre2 w 42 #[.bool an,.slice aA ak ac,.bool an',.slice aA' ak' ac'] 42 #[.bool false,.slice none 0 0,.bool false,.slice none 0 0];generalize (w.alloc (.cells #[.bool an,.slice aA ak ac,.bool an',.slice aA' ak' ac'] 42)).alloc (.cells #[.bool false,.slice none 0 0,.bool false,.slice none 0 0] 42)=W at *;have HSZ:=Hj hsz;clear hsz;refine (TA.out W hBW).mono ?_;rintro e w1 ⟨rfl,hb1⟩;have hr:=(RS4.start hB1).call hb1;obtain ⟨_,_,_,_,c0,c1,c2,c3,f0,f1,f2,f3⟩:=hr.four;obtain ⟨d0,d1,d2,d3,-,-,-,-⟩:=(hr.done (.bool false) (.slice none 0 0) (.bool false) (.slice none 0 0)).four;have HF:=Hj (below_set4 (g:=w.heap.size+1) (hBW.trans (hb1.mono hBW.size)) (by omega) (.bool false) (.slice none 0 0) (.bool false) (.slice none 0 0));clear hr hb1 hB0 hB1 hBW TA;go_wp2;refine bodyPost_ret (v:=.tuple #[.agg #[.bool false,.slice none 0 0,.bool false,.slice none 0 0],.int .i64 x]) ?_ rfl ⟨rfl,HF.out⟩;simp [results,Tryz.results32,go_sem,d0,d1,d2,d3]
namespace St
end St
end Go.Proofs.YtjajigkacccdgaaGreat
namespace Go.Proofs.YtjajigkacccdgaaGreat
open Go.RowKit
open Wd
def aL (p:Int) (l:List (Int×Int)):Int:=sumI (l.map fun s=>if s.2<p then s.1 else 0)
def aM (p:Int) (l:List (Int×Int)):Int:=sumI (l.map fun s=>if s.2≤p then s.1 else 0)
namespace St
end St
end Go.Proofs.YtjajigkacccdgaaGreat
namespace Go.Proofs.YtjajigkacccdgaaGreat
open Go.RowKit
open Wd
theorem lessQ_spec {z:Rat} {a:Int} (h0:0≤z) (ha:0≤a):0≤lessQ z a∧lessQ z a≤(a:Rat)∧lessQ z a≤z∧((lessQ z a=z∧z≤(a:Rat))∨(lessQ z a=(a:Rat)∧(a:Rat)<z)):=by
 have h1:(0:Rat)≤(a:Rat):=by exact_mod_cast ha
 unfold lessQ;split
 ·exact ⟨h1,Rat.le_refl,by grind,Or.inr ⟨rfl,by assumption⟩⟩
 ·exact ⟨h0,by grind,Rat.le_refl,Or.inl ⟨rfl,by grind⟩⟩
def sumF (f:Nat→Rat):Nat→Rat
 | 0=>0
 | k+1=>sumF f k+f k
structure LF (n:Nat) (lo up:Nat→Rat) (xs:Nat→Rat) (q:Rat):Prop where
 ge:∀ i,i<n→lo i≤xs i
 le:∀ i,i<n→xs i≤up i
 sum:sumF xs n=q
 last:∀ i,i<n→lo i<xs i→∀ k,k<n→i<k→xs k=up k
namespace St
def ltB (up:Bool) (a b:Int):Bool:=if up then decide (a<b) else decide (b<a)
theorem ltU_trans {up:Bool} {a b c:Int} (h:ltU up a b) (h':ltU up b c):ltU up a c:=by
 unfold ltU at *;cases up<;>simp at *<;>omega
end St
end Go.Proofs.YtjajigkacccdgaaGreat
namespace Go.Proofs.YtjajigkacccdgaaGreat
open Go.RowKit
open Wd
theorem take_last {xs:List Int} {k:Nat} (hk:k<xs.length):sumI (xs.take (k+1))=sumI (xs.take k)+xs[k]?.getD 0:=by
 rw [List.take_succ_eq_append_getElem hk,sumI_snoc];simp [hk]
namespace St
end St
structure Side (ls:List (List (Int×Int))) (p z:Int) (xs:List Int):Prop where
 len:xs.length=ls.length
 lo:∀ i,i<ls.length→aL p (ls[i]?.getD [])≤xs[i]?.getD 0
 hi:∀ i,i<ls.length→xs[i]?.getD 0≤aM p (ls[i]?.getD [])
 sum:sumI xs=z
end Go.Proofs.YtjajigkacccdgaaGreat
namespace Go.Proofs.YtjajigkacccdgaaGreat
open Go.RowKit
open Wd
def qRest (xs:List Int) (n:Nat) (t:Rat):Nat→Rat
 | 0=>t
 | j+1=>qRest xs n t j-lessQ (qRest xs n t j) (xs[n-1-j]?.getD 0)
def qPart (xs:List Int) (n:Nat) (t:Rat) (j:Nat):Rat:=lessQ (qRest xs n t j) (xs[n-1-j]?.getD 0)
def qRow (xs:List Int) (n:Nat) (t:Rat) (ys:List Rat):Nat→List Rat
 | 0=>ys
 | j+1=>(qRow xs n t ys j).set (n-1-j) ((qRow xs n t ys j)[n-1-j]?.getD 0+qPart xs n t j)
def qAll (lv:List St.Lv) (n:Nat) (z:Rat):Nat→List Rat
 | 0=>List.replicate n 0
 | i+1=>qRow (lv[i]?.getD Lv0).2.2 n (partAt (lvQ lv) z i) (qAll lv n z i) n
theorem qRow_len (xs:List Int) (n:Nat) (t:Rat) (ys:List Rat):∀ j,(qRow xs n t ys j).length=ys.length
 | 0=>rfl
 | j+1=>by rw [qRow,List.length_set,qRow_len xs n t ys j]
theorem qAll_len (lv:List St.Lv) (n:Nat) (z:Rat):∀ i,(qAll lv n z i).length=n
 | 0=>by simp [qAll]
 | i+1=>by rw [qAll,qRow_len,qAll_len lv n z i]
theorem qRow_get {xs:List Int} {n:Nat} {t:Rat} {ys:List Rat} (hy:ys.length=n):∀ j,j≤n→∀ i,i<n→(qRow xs n t ys j)[i]?.getD 0=if n-j≤i then ys[i]?.getD 0+qPart xs n t (n-1-i) else ys[i]?.getD 0
 | 0,_,i,hi=>by rw [if_neg (by omega)];rfl
 | j+1,hj,i,hi=>by
  have ih:=qRow_get (xs:=xs) (t:=t) hy j (by omega);rw [qRow];by_cases e:n-1-j=i
  ·subst e;rw [List.getElem?_set_self (by rw [qRow_len];omega),if_pos (by omega)];simp only [Option.getD_some];rw [ih _ hi,if_neg (by omega),show n-1-(n-1-j)=j by omega]
  ·rw [List.getElem?_set_ne e,ih i hi];by_cases c:n-j≤i
   ·rw [if_pos c,if_pos (by omega)]
   ·rw [if_neg c,if_neg (by omega)]
theorem qAll_get {lv:List St.Lv} {n:Nat} {z:Rat} {i:Nat} (hi:i<n):∀ k,(qAll lv n z k)[i]?.getD 0=sumF (fun k=>qPart (lv[k]?.getD Lv0).2.2 n (partAt (lvQ lv) z k) (n-1-i)) k
 | 0=>by simp [qAll,sumF,hi]
 | k+1=>by
  rw [qAll,qRow_get (qAll_len ..) n (Nat.le_refl _) i hi,if_pos (by omega),qAll_get hi k,sumF]
def NN (xs:List Int):Prop:=∀ y∈xs,0≤y
theorem NN.get {xs:List Int} (h:NN xs) (i:Nat):0≤xs[i]?.getD 0:=by
 by_cases hi:i<xs.length
 ·exact h _ (getD_mem hi)
 ·rw [List.getElem?_eq_none (by omega)];exact Int.le_refl _
section
variable {xs:List Int} {n:Nat} {t:Rat}
theorem qRest_bd (hx:NN xs) (h0:0≤t):∀ j,0≤qRest xs n t j∧qRest xs n t j≤t
 | 0=>⟨h0,Rat.le_refl⟩
 | j+1=>by
  obtain ⟨i1,i2⟩:=qRest_bd hx h0 j;obtain ⟨m1,m2,m3,m4⟩:=lessQ_spec i1 (hx.get (n-1-j));rw [qRest];constructor<;>grind
theorem qRest_part (j:Nat):qRest xs n t (j+1)=qRest xs n t j-qPart xs n t j:=rfl
end
theorem sumI_take_le {xs:List Int} (hx:NN xs):∀ k,sumI (xs.take k)≤sumI (xs.take (k+1)):=fun k=>by
 by_cases hk:k<xs.length
 ·rw [take_last hk];have:=hx.get k;omega
 ·rw [List.take_of_length_le (by omega),List.take_of_length_le (by omega)];exact Int.le_refl _
section
variable {xs:List Int} {n:Nat} {t:Rat}
theorem qRest_le (hx:NN xs) (hl:xs.length=n) (h0:0≤t) (h1:t≤((sumI xs:Int):Rat)):∀ j,j≤n→qRest xs n t j≤((sumI (xs.take (n-j)):Int):Rat)
 | 0,_=>by rw [Nat.sub_zero,List.take_of_length_le (by omega)];exact h1
 | j + 1,hj=>by
  have ih:=qRest_le hx hl h0 h1 j (by omega);rw [show n-j=(n-1-j)+1 by omega,take_last (by omega),Rat.intCast_add] at ih;obtain ⟨i1,i2⟩:=qRest_bd (n:=n) hx h0 j;obtain ⟨m1,m2,m3,m4⟩:=lessQ_spec i1 (hx.get (n-1-j));have hp:(0:Rat)≤((sumI (xs.take (n-1-j)):Int):Rat):=by
   have:∀ k,0≤sumI (xs.take k):=fun k=>by
    induction k with
    | zero=>simp [sumI]
    | succ k ih=>exact Int.le_trans ih (sumI_take_le hx k)
   exact_mod_cast this _
  rw [qRest,show n-(j+1)=n-1-j by omega];grind
theorem qRest_end (hx:NN xs) (hl:xs.length=n) (h0:0≤t) (h1:t≤((sumI xs:Int):Rat)):qRest xs n t n=0:=by
 have h2:=qRest_le hx hl h0 h1 n (Nat.le_refl _);have h3:=(qRest_bd (n:=n) hx h0 n).1;rw [Nat.sub_self,List.take_zero] at h2;have h4:((sumI []:Int):Rat)=0:=rfl;grind
theorem qRest_full (hx:NN xs) (hl:xs.length=n):∀ j,j≤n→qRest xs n ((sumI xs:Int):Rat) j=((sumI (xs.take (n-j)):Int):Rat)
 | 0,_=>by rw [Nat.sub_zero,List.take_of_length_le (by omega)];rfl
 | j + 1,hj=>by
  have ih:=qRest_full hx hl j (by omega);rw [show n-j=(n-1-j)+1 by omega,take_last (by omega),Rat.intCast_add] at ih;have hp:(0:Rat)≤((sumI (xs.take (n-1-j)):Int):Rat):=by
   have:∀ k,0≤sumI (xs.take k):=fun k=>by
    induction k with
    | zero=>simp [sumI]
    | succ k ih=>exact Int.le_trans ih (sumI_take_le hx k)
   exact_mod_cast this _
  have hg:(0:Rat)≤((xs[n-1-j]?.getD 0:Int):Rat):=by exact_mod_cast hx.get _
  obtain ⟨m1,m2,m3,m4⟩:=lessQ_spec (z:=qRest xs n ((sumI xs:Int):Rat) j) (by grind) (hx.get (n-1-j));rw [qRest,show n-(j+1)=n-1-j by omega];grind
theorem qPart_full (hx:NN xs) (hl:xs.length=n) {j:Nat} (hj:j<n):qPart xs n ((sumI xs:Int):Rat) j=((xs[n-1-j]?.getD 0:Int):Rat):=by
 have h1:=qRest_full hx hl j (by omega);have h2:=qRest_full hx hl (j+1) (by omega);rw [show n-j=(n-1-j)+1 by omega,take_last (by omega),Rat.intCast_add] at h1;rw [qRest_part,show n-(j+1)=n-1-j by omega] at h2;grind
end
theorem VL.nn {up:Bool} {n:Nat} {lv:List St.Lv} (hv:VL up n lv) {k:Nat} (hk:k<lv.length):NN (lv[k]?.getD Lv0).2.2∧(lv[k]?.getD Lv0).2.2.length=n:=by
 obtain ⟨h1,h2⟩:=hv.parts _ (getD_mem (d:=Lv0) hk);exact ⟨fun y hy=>(h2 y hy).1,h1⟩
end Go.Proofs.YtjajigkacccdgaaGreat
namespace Go.Proofs.YtjajigkacccdgaaGreat
open Go.RowKit
open Wd
attribute [local go_sem ↓] Go.wp_at_zero Go.wp_at_succ
section
variable {w wr:World} {g g':Nat} {m s:Rat} {A A' B B':Option Addr} {j c j' c' i d i' d':Nat}
end
theorem ls_zero (s:Nat) (hs:1≤s):Ls s (0:Rat):=by
 have h1:WB 1≤WB s:=wb_mono hs;have h2:WB 1=4294967296:=rfl;refine ⟨?_,?_⟩
 ·show 0<WB s;omega
 ·show 1<WB s;omega
theorem costAt_ls {s:Nat} {l:List (Int×Int)} {q:Rat} (hp:∀ k,k<l.length→Ls s (partAt l q k)) (hpr:∀ x∈l,x.2.natAbs≤18446744073709551616):∀ k,k≤l.length→Ls (k*(s+6)+1) (costAt l q k)
 | 0,_=>ls_zero _ (by omega)
 | k+1,hk=>by
  have ih:=costAt_ls hp hpr k (by omega);have h1:=(hp k (by omega)).mul (ls_int (Nat.le_refl 3) (hpr _ (getD_mem (d:=(0,0)) (show k<l.length by omega))));rw [costAt];exact (ih.add h1).mono (by rw [Nat.succ_mul];omega)
theorem costOK_s {s L:Nat} (hs:3≤s) (hL:1≤L) {l:List (Int×Int)} {q:Rat} (hl:l.length≤L) (hp:∀ k,k<l.length→Ls s (partAt l q k)) (hpr:∀ x∈l,x.2.natAbs≤18446744073709551616) :
  CostOK (WB (2*(L*(s+6)+1)+1)) (WB s) (WB s) (WB (L*(s+6)+1)) (WB (L*(s+6)+1)) l q:=by
 have h3:=wb_three;have h3s:=wb_mono hs;have hLs:s+6≤L*(s+6):=Nat.le_mul_of_pos_left _ hL;have m1:=wb_mul s s;have m2:=wb_mul (L*(s+6)+1) (L*(s+6)+1);have k1:WB (s+s+1)≤WB (2*(L*(s+6)+1)+1):=wb_mono (by omega);have k2:WB (L*(s+6)+1+(L*(s+6)+1)+1)≤WB (2*(L*(s+6)+1)+1):=wb_mono (by omega);have k3:WB s≤WB (2*(L*(s+6)+1)+1):=wb_mono (by omega);have k4:WB (L*(s+6)+1)≤WB (2*(L*(s+6)+1)+1):=wb_mono (by omega);refine ⟨by omega,k3,by omega,by omega,by omega,by omega,k3,k3,by omega,by omega,k4,k4,fun k hk=>?_,fun k hk=>?_⟩
 ·exact (costAt_ls hp hpr k hk).mono (by have:=Nat.mul_le_mul_right (s+6) (Nat.le_trans hk hl);omega)
 ·exact ((hp k hk).mul (ls_int (Nat.le_refl 3) (hpr _ (getD_mem (d:=(0,0)) hk)))).mono (by omega)
theorem qRest_ls {s:Nat} {xs:List Int} {n:Nat} {tq:Rat} (hx:∀ y∈xs,0≤y∧y≤1000000) (h0:0≤tq) (h:Ls s tq):∀ j,0≤qRest xs n tq j∧Ls s (qRest xs n tq j)
 | 0=>⟨h0,h⟩
 | j+1=>by
  obtain ⟨i1,i2⟩:=qRest_ls (n:=n) hx h0 h j;have hg:0≤xs[n-1-j]?.getD 0:=NN.get (fun y hy=>(hx y hy).1) _;obtain ⟨b1,b2,b3⟩:=rest_bd i1 hg i2.1 i2.2;exact ⟨b1,b2,b3⟩
theorem sumF_ls {s:Nat} {f:Nat→Rat}:∀ {k:Nat},(∀ j,j<k→Ls s (f j))→Ls (k*(s+1)+1) (sumF f k)
 | 0,_=>ls_zero _ (by omega)
 | k+1,h=>by
  have ih:=sumF_ls (k:=k) fun j hj=>h j (by omega);rw [sumF];exact (ih.add (h k (by omega))).mono (by rw [Nat.succ_mul k];omega)
theorem lessQ_ls {s:Nat} (hs:3≤s) {r:Rat} {a:Int} (h:Ls s r) (ha:a.natAbs≤18446744073709551616):Ls s (lessQ r a):=by
 unfold lessQ;split
 ·exact (ls_int hs ha)
 ·exact h
theorem qAll_ls {s:Nat} (hs:3≤s) {up:Bool} {n:Nat} {lv:List St.Lv} (hv:VL up n lv) {zq:Rat} (hp:∀ k,k<lv.length→0≤partAt (lvQ lv) zq k∧Ls s (partAt (lvQ lv) zq k)) {k:Nat} (hk:k≤lv.length) {i:Nat} (hi:i<n):Ls (k*(s+1)+1) ((qAll lv n zq k)[i]?.getD 0):=by
 rw [qAll_get hi];refine sumF_ls fun j hj=>?_;have hx:=hv.parts _ (getD_mem (d:=Lv0) (show j<lv.length by omega));obtain ⟨h1,h2⟩:=hp j (by omega);have h3:=(qRest_ls (n:=n) hx.2 h1 h2 (n-1-i)).2;unfold qPart;refine lessQ_ls hs h3 ?_;rw [show n-1-(n-1-i)=i by omega];by_cases hi2:i<(lv[j]?.getD Lv0).2.2.length
 ·have:=hx.2 _ (getD_mem (d:=0) hi2);omega
 ·rw [List.getElem?_eq_none (by omega)];decide
theorem partAt_ls {s:Nat} (hs:3≤s) {up:Bool} {n:Nat} {lv:List St.Lv} (hv:VL up n lv) {zq:Rat} (h0:0≤zq) (hz:Ls s zq):∀ k,k<lv.length→0≤partAt (lvQ lv) zq k∧Ls s (partAt (lvQ lv) zq k):=fun k hk=>by
 have h3:=wb_three;have h3s:=wb_mono hs;obtain ⟨r1,r2,r3⟩:=restL_bd h0 hv.okQ hz.1 hz.2 k (by rw [lvQ_len];omega);obtain ⟨p1,p2⟩:=partL_bd h0 hv.okQ hz.1 hz.2 (by omega) (by omega) (k:=k) (by rw [lvQ_len];exact hk);have hg:=hv.okQ _ (getD_mem (d:=(0,0)) (show k<(lvQ lv).length by rw [lvQ_len];exact hk));exact ⟨(lessQ_spec r1 (by omega)).1,p1,p2⟩
end Go.Proofs.YtjajigkacccdgaaGreat
namespace Go.Proofs.YtjajigkacccdgaaGreat
open Go.RowKit
open Wd
def lRest (r:Rat) (xs:List Int) (n j:Nat):Rat:=r-lessQ r (sumI xs)+qRest xs n (lessQ r (sumI xs)) j
section
variable {r:Rat} {xs:List Int} {n:Nat}
theorem NN.sum (hx:NN xs):∀ k,0≤sumI (xs.take k):=fun k=>by
 induction k with
 | zero=>simp [sumI]
 | succ k ih=>exact Int.le_trans ih (sumI_take_le hx k)
theorem NN.all (hx:NN xs):0≤sumI xs:=by
 have:=hx.sum xs.length
 rwa [List.take_length] at this
theorem lRest_zero:lRest r xs n 0=r:=by
 unfold lRest;rw [qRest];grind
theorem lRest_end (hx:NN xs) (hl:xs.length=n) (h0:0≤r):lRest r xs n n=r-lessQ r (sumI xs):=by
 obtain ⟨m1,m2,m3,m4⟩:=lessQ_spec h0 hx.all;unfold lRest;rw [qRest_end hx hl m1 m2];grind
theorem lRest_part (hx:NN xs) (hl:xs.length=n) (h0:0≤r) {j:Nat} (hj:j<n):lessQ (lRest r xs n j) (xs[n-1-j]?.getD 0)=qPart xs n (lessQ r (sumI xs)) j:=by
 obtain ⟨m1,m2,m3,m4⟩:=lessQ_spec h0 hx.all;rcases m4 with ⟨e,-⟩|⟨e,hlt⟩
 ·unfold lRest qPart;rw [e,show r-r+qRest xs n r j=qRest xs n r j by grind]
 ·have h1:=qRest_full hx hl j (by omega);have hp:(0:Rat)≤((sumI (xs.take (n-1-j)):Int):Rat):=by exact_mod_cast hx.sum _
  rw [show n-j=(n-1-j)+1 by omega,take_last (by omega),Rat.intCast_add] at h1;rw [e,qPart_full hx hl hj];have hg:=hx.get (n-1-j);have hb:(((xs[n-1-j]?.getD 0:Int)):Rat)≤lRest r xs n j:=by
   unfold lRest;rw [e,h1];grind
  have hg2:(0:Rat)≤(((xs[n-1-j]?.getD 0:Int)):Rat):=by exact_mod_cast hg
  obtain ⟨k1,k2,k3,k4⟩:=lessQ_spec (z:=lRest r xs n j) (by grind) hg;grind
theorem lRest_step (hx:NN xs) (hl:xs.length=n) (h0:0≤r) {j:Nat} (hj:j<n):lRest r xs n (j+1)=lRest r xs n j-lessQ (lRest r xs n j) (xs[n-1-j]?.getD 0):=by
 rw [lRest_part hx hl h0 hj];unfold lRest;rw [qRest_part];grind
theorem lRest_ls {s:Nat} (hx:NN xs) (hl:xs.length=n) (h0:0≤r) (h:Ls s r):∀ j,j≤n→0≤lRest r xs n j∧Ls s (lRest r xs n j)
 | 0,_=>by rw [lRest_zero];exact ⟨h0,h⟩
 | j+1,hj=>by
  obtain ⟨i1,i2⟩:=lRest_ls hx hl h0 h j (by omega);obtain ⟨b1,b2,b3⟩:=rest_bd i1 (hx.get (n-1-j)) i2.1 i2.2;rw [lRest_step hx hl h0 (by omega)];exact ⟨b1,b2,b3⟩
end
end Go.Proofs.YtjajigkacccdgaaGreat
namespace Go.Proofs.YtjajigkacccdgaaGreat
open Go.ChangeShapes Go.WideShapes Go.ChangeAt Go.RowKit Go.Deep
open Wd
theorem own:ownKnob Tryz.prog.godebug=none:=by kernel_rfl
theorem laidOut:laidOutB Tryz.prog=true:=by kernel_rfl
theorem cells_int64:Tryz.prog.cellsOf 2 = 1:=by kernel_rfl
theorem fits_of {z:Int} (h:(Lit.int .i64 z).wf=true):Fits z:=by
 simp [Lit.wf,IntKind.min,IntKind.max,IntKind.signed,IntKind.bits] at h;unfold Fits;omega
theorem drop_one {α:Type} {l:List α} {o:Nat} {v:α} (h:(l.drop o).take 1=[v]):l[o]?=some v:=by
 have h0:((l.drop o).take 1)[0]?=some v:=by rw [h];rfl
 simpa using h0
theorem addr_plus (b o k:Nat):(⟨b,o,none⟩:Addr).add k=⟨b,o+k,none⟩:=by
 unfold Addr.add;split
 ·rename_i h;rw [h];rfl
 ·rfl
section
variable {H:Type} {enc:TypeId×Value→H} {W:World}
theorem plain_addr {a:Addr} {v:Value} (h:W.cell? a=some v):a=⟨a.block,a.off,none⟩∧a.block<W.heap.size:=by
 have h1:=World.cell?_spot h;have h2:=World.block_lt_of_cell? W a h;obtain ⟨b,o,s⟩:=a;simp only at h1 h2 ⊢;exact ⟨by rw [h1],h2⟩
theorem field_int {cs:List Value} {xs:List (DataW H×List MemPlace)} {n:Nat} {t:TypeId} {o j:Nat} (hu:Tryz.prog.underlying t=some (.int .i64)) (hc:Tryz.prog.cellsOf t=1) (hj:j<xs.length)
  (h:DataW.trod enc Tryz.prog W 0 (fun _=>true) true n t ((cs.drop o).take (Tryz.prog.cellsOf t))=xs[j]?):∃ z,cs[o]?=some (.int .i64 z)∧Fits z:=by
 rw [hc,List.getElem?_eq_getElem hj] at h;obtain ⟨z,hz,_,hw⟩:=DataW.trod_int hu h;exact ⟨z,drop_one hz,fits_of hw⟩
theorem is_of {fuel:Nat} {cs:List Value} {x:DataW H×List MemPlace} (h:DataW.trod enc Tryz.prog W 0 (fun _=>true) true fuel 62 cs=some x):∃ A n c xs,cs=[.slice A n c]∧IsAt W A n xs∧∀ z∈xs,Fits z:=by
 rcases open_slice1 Tryz.underlying62 cells_int64 h with ⟨rfl,_⟩|⟨a,len,cap,m,n,V,D,Pl,rfl,_,hl,_,hmm,_,hi⟩
 ·exact ⟨none,0,0,[],rfl,⟨rfl,fun h=>absurd rfl h⟩,by simp⟩
 ·simp only [if_true] at hmm;have each:∀ i,i<len→∃ z:Int,W.cell? (a.add i)=some (.int .i64 z)∧Fits z:=by
   intro i hil;obtain ⟨hc,ht⟩:=hi i (by omega);obtain ⟨z,hz,_,hw⟩:=DataW.trod_int Tryz.underlying2 ht;exact ⟨z,by rw [hc];simpa using hz,fits_of hw⟩
  obtain ⟨F,hF⟩:=choose_lt each;refine ⟨some a,len,cap,(List.range len).map F,rfl,⟨by simp,fun hn=>?_⟩,?_⟩
  ·obtain ⟨e,hb⟩:=plain_addr (hF 0 (by omega)).1;have hsp:a.spot=none:=by have:=congrArg Addr.spot e;simpa [Addr.add] using this
   have ea:a=⟨a.block,a.off,none⟩:=by obtain ⟨b,o,s⟩:=a;simp only at hsp ⊢;rw [hsp]
   refine ⟨a.block,a.off,by rw [← ea],by simpa [Addr.add] using hb,fun j hj=>?_⟩;have e1:((List.range len).map F)[j]?.getD 0=F j:=by simp [hj]
   have c1:=(hF j hj).1;rw [ea,addr_plus] at c1;rw [e1];exact c1
  ·intro z hz;obtain ⟨i,hi',rfl⟩:=List.mem_map.1 hz;exact (hF i (List.mem_range.1 hi')).2
end
section
variable {H:Type} {enc:TypeId×Value→H} {P:Program} {W:World}
theorem args_stay (hlo:laidOutB P=true) {W':World} (hb:Below W.heap.size W W') (sp:Nat→Bool):∀ {ts:List TypeId} {vs:List Value} {ds:List (DataW H)} {ps:List MemPlace},
  (∀ t∈ts,P.readableRec t=true∧t<P.types.size)→DataW.TrodAll enc P W 0 (fun _=>true) true ts vs ds ps→(∀ p∈ps,p.block<W.heap.size)→(∀ p∈ps,sp p.block=true) →
  DataW.TrodAll enc P W' 0 sp true ts vs ds ps
 | [],_,_,_,_,h,_,_=>by obtain ⟨rfl,rfl,rfl⟩:=trodAll_nil h;exact trodAll_mk0
 | t :: ts,_,_,_,hr,h,hlt,hs=>by
  obtain ⟨v,vs',d,ds',p,q,rfl,rfl,rfl,h1,h2⟩:=trodAll_cons h;have hr1:=hr t (List.mem_cons_self ..);exact trodAll_cons_mk (WideElems.Trod_stays hlo hr1.1 hr1.2 h1 (fun x hx=>hb.same (hlt x (List.mem_append_left _ hx))) (fun x hx=>hs x (List.mem_append_left _ hx)))
   (args_stay hlo hb sp (fun y hy=>hr y (List.mem_cons_of_mem _ hy)) h2 (fun x hx=>hlt x (List.mem_append_right _ hx)) (fun x hx=>hs x (List.mem_append_right _ hx)))
theorem post_true (hlo:laidOutB P=true) {f:Func} {s:ChangeSpec} {W':World} {args:Array Value} {ds:List (DataW H)} {before:List MemPlace} {tb:TypeId} (hbool:P.underlying tb=some .bool) (hv:s.vars=[]) (hr1:f.resultTypes=#[tb])
  (hr:∀ t∈f.params.toList,P.readableRec t=true∧t<P.types.size)
  (hW:DataW.Whole enc P f.params.toList s.vars false W args.toList ds [] before) (hres:(s.fn H (ds ++ [])).results=[.lit (.bool true)]) (hargs:(s.fn H (ds ++ [])).args=ds) (hvars:(s.fn H (ds ++ [])).vars=[]) (hb:Below W.heap.size W W') :
  s.post enc P f false true false false W args (.bool true) W':=by
 have hW':=hW;obtain ⟨p,q,hA,hV,rfl,hz,hn⟩:=hW;rw [hv] at hV;obtain ⟨_,rfl⟩:=trodVars_none hV;have hlt:∀ x∈p ++ [],x.block<W.heap.size:=fun x hx=>hW'.lt x hx;have hlt':∀ x∈p,x.block<W.heap.size:=fun x hx=>hlt x (by simpa using hx);have hold:∀ x∈p,(fun b=>decide (b<W.heap.size)) x.block=true:=fun x hx=>by simpa using hlt' x hx
 have hRes:∀ (b:Nat) (sp:Nat→Bool) (hd:Bool),DataW.TrodAll enc P W' b sp hd f.resultTypes.toList ((Value.bool true).resultList f.resultTypes.size) (s.fn H (ds ++ [])).results []:=fun b sp hd=>by
  rw [hres,hr1];exact trodAll_cons_mk (shut_bool hbool true) trodAll_mk0
 have hArg:∀ sp:Nat→Bool,(∀ x∈p,sp x.block=true)→DataW.TrodAll enc P W' 0 sp true f.params.toList args.toList (s.fn H (ds ++ [])).args p:=fun sp hsp=>by
  rw [hargs];exact args_stay hlo hb sp hr hA hlt' hsp
 have hVar:∀ sp:Nat→Bool,DataW.TrodVars enc P W' sp s.vars (s.fn H (ds ++ [])).vars []:=fun sp=>by
  rw [hv,hvars];rfl
 refine ⟨ds,[],p ++ [],[],p,[],hW',hRes _ _ _,hArg _ (by simpa using hold),hVar _,World.keptBut_mono (fun x hx=>⟨hx,?_⟩) (hb.frame (·∈p ++ [])),fun _=>?_⟩
 ·exact Or.inr (by simpa using hx)
 ·refine ⟨ok_one hr1 rfl (okWide_bool_mk hbool _),_,_,([] ++ p) ++ [],⟨[] ++ p,[],trodAll_append (hArg _ (fun _ _=>rfl)) (hRes _ _ _),hVar _,rfl,?_,?_⟩,?_⟩
  ·intro b off hp;have hin:MemPlace.cell b off∈p ++ []:=by simpa using hp
   rw [hb.frozen (hlt _ hin)];exact hz b off hin
  ·intro ha;cases ha
  ·intro x hx _;simpa using hx
end
theorem rowed {P:Program} {ps:Array TypeId} (h:(ps.toList.all fun t=>P.readableRec t && decide (t<P.types.size))=true):∀ t∈ps.toList,P.readableRec t=true∧t<P.types.size:=by
 intro t ht;have:=List.all_eq_true.1 h t ht;simpa using this
theorem cells_u32:Tryz.prog.cellsOf 59 = 1:=by kernel_rfl
theorem cells_u32s:Tryz.prog.cellsOf 38 = 1:=by kernel_rfl
theorem cells_boolq:Tryz.prog.cellsOf 4 = 1:=by kernel_rfl
theorem cells_z:Tryz.prog.cellsOf 40 = 2:=by kernel_rfl
theorem cells_q:Tryz.prog.cellsOf 42 = 4:=by kernel_rfl
theorem u32_of {z:Int} (h:(Lit.int .u32 z).wf=true):∃ i:Nat,z=(i:Int)∧i<4294967296:=by
 simp [Lit.wf,IntKind.min,IntKind.max,IntKind.signed,IntKind.bits] at h;exact ⟨z.toNat,by omega,by omega⟩
section
variable {H:Type} {enc:TypeId×Value→H} {W:World}
theorem ws_of {fuel:Nat} {cs:List Value} {x:DataW H×List MemPlace} (h:DataW.trod enc Tryz.prog W 0 (fun _=>true) true fuel 38 cs=some x):∃ A n c l,cs=[.slice A n c]∧Wat W A n l∧n≤c:=by
 rcases open_slice1 Tryz.underlying38 cells_u32 h with ⟨rfl,_⟩|⟨a,len,cap,m,n,V,D,Pl,rfl,hlc,hl,_,hmm,_,hi⟩
 ·exact ⟨none,0,0,[],rfl,Wat.nil,Nat.le_refl _⟩
 ·simp only [if_true] at hmm;have each:∀ i,i<len→∃ z:Nat,W.cell? (a.add i)=some (.int .u32 (z:Int))∧z<4294967296:=by
   intro i hil;obtain ⟨hc,ht⟩:=hi i (by omega);obtain ⟨z,hz,_,hw⟩:=DataW.trod_int Tryz.underlying59 ht;obtain ⟨i',rfl,hi'⟩:=u32_of hw;exact ⟨i',by rw [hc];simpa using hz,hi'⟩
  obtain ⟨F,hF⟩:=choose_lt each;refine ⟨some a,len,cap,(List.range len).map F,rfl,⟨by simp,?_,fun hn=>?_⟩,?_⟩
  ·intro z hz;obtain ⟨i,hi',rfl⟩:=List.mem_map.1 hz;exact (hF i (List.mem_range.1 hi')).2
  ·obtain ⟨e,hb⟩:=plain_addr (hF 0 (by omega)).1;have hsp:a.spot=none:=by have:=congrArg Addr.spot e;simpa [Addr.add] using this
   have ea:a=⟨a.block,a.off,none⟩:=by obtain ⟨b,o,s⟩:=a;simp only at hsp ⊢;rw [hsp]
   refine ⟨a.block,a.off,by rw [← ea],by simpa [Addr.add] using hb,fun j hj=>?_⟩;have e1:((List.range len).map F)[j]?.getD 0=F j:=by simp [hj]
   have c1:=(hF j hj).1;rw [ea,addr_plus] at c1;rw [e1];exact c1
  ·omega
theorem z_of {fuel:Nat} {cs:List Value} {x:DataW H×List MemPlace} (hcl:cs.length=2) (h:DataW.trod enc Tryz.prog W 0 (fun _=>true) true fuel 40 cs=some x):∃ an A n c l,cs=[.bool an,.slice A n c]∧Wat W A n l∧n≤c:=by
 obtain ⟨xs,k,_,_,_,hxl,hg⟩:=DataW.trod_struct Tryz.underlying40 h;have hxl2:xs.length=2:=hxl;have h0:DataW.trod enc Tryz.prog W 0 (fun _=>true) true k 4 ((cs.drop 0).take (Tryz.prog.cellsOf 4))=xs[0]?:=hg 0 _ rfl;have h1:DataW.trod enc Tryz.prog W 0 (fun _=>true) true k 38 ((cs.drop 1).take (Tryz.prog.cellsOf 38))=xs[1]?:=hg 1 _ rfl;rw [cells_boolq,List.getElem?_eq_getElem (by omega)] at h0;rw [cells_u32s,List.getElem?_eq_getElem (by omega)] at h1;obtain ⟨an,e0,_⟩:=DataW.trod_bool Tryz.underlying4 h0;obtain ⟨A,n,c,l,e1,hw,hc⟩:=ws_of h1;have d0:=drop_one e0;have d1:=drop_one e1;refine ⟨an,A,n,c,l,?_,hw,hc⟩
 match cs,hcl with
 | [a,b],_ =>
  simp at d0 d1;rw [d0,d1]
theorem q_of {base:Nat} {v:Value} {d:DataW H} {p:List MemPlace} (hv:Value.okWide Tryz.prog W .any base 42 v) (h:DataW.Trod enc Tryz.prog W 0 (fun _=>true) true 42 v d p) :
  ∃ an A n c an' A' n' c',v=.agg #[.bool an,.slice A n c,.bool an',.slice A' n' c']∧QRaw W A n c A' n' c':=by
 obtain ⟨cs,rfl,hsz⟩:=okWide_struct Tryz.underlying42 hv;obtain ⟨fuel,hf⟩:=h;obtain ⟨cl⟩:=cs;rw [cells_q] at hsz;obtain ⟨xs,k,_,_,_,hxl,hg⟩:=DataW.trod_struct Tryz.underlying42 hf;have hxl2:xs.length=2:=hxl;have hcl:cl.length=4:=hsz;have h0:DataW.trod enc Tryz.prog W 0 (fun _=>true) true k 40 ((cl.drop 0).take (Tryz.prog.cellsOf 40))=xs[0]?:=hg 0 _ rfl;have h1:DataW.trod enc Tryz.prog W 0 (fun _=>true) true k 40 ((cl.drop 2).take (Tryz.prog.cellsOf 40))=xs[1]?:=hg 1 _ rfl;rw [cells_z,List.getElem?_eq_getElem (by omega)] at h0 h1;obtain ⟨an,A,n,c,l,e0,w0,b0⟩:=z_of (by simp;omega) h0;obtain ⟨an',A',n',c',l',e1,w1,b1⟩:=z_of (by simp;omega) h1;refine ⟨an,A,n,c,an',A',n',c',?_,l,l',w0,w1,b0,b1⟩
 match cl,hcl with
 | [a,b,a',b'],_ =>
  simp at e0 e1;rw [e0.1,e0.2,e1.1,e1.2]
end
section
variable {H:Type} {enc:TypeId×Value→H} {W:World}
end
end Go.Proofs.YtjajigkacccdgaaGreat
namespace Go.Proofs.YtjajigkacccdgaaGreat
open Go.RowKit
open Wd
end Go.Proofs.YtjajigkacccdgaaGreat
