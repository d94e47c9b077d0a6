/-
Lemmas of the walk; no further conditions.
-/
import Derived.Test.YtjajigkacccdgaaGreatTiAB
set_option linter.unusedVariables false
set_option linter.unusedSimpArgs false
set_option maxRecDepth 100000
set_option maxHeartbeats 16000000
namespace Go.Proofs.YtjajigkacccdgaaGreat
open Go.RowKit
open Wd
def RetDiv (w:World) (x y:Nat) (e:Ending) (w':World):Prop :=
 ∃ A1 n1 c1 q A2 n2 c2 r,e=.returned (.tuple #[.slice A1 n1 c1,.slice A2 n2 c2])∧n1≤c1∧n2≤c2∧n1≤100000000000∧n2≤100000000000∧Wat w' A1 n1 q∧Wat w' A2 n2 r ∧
  Fresh w.heap.size w' A1 n1∧Fresh w.heap.size w' A2 n2∧val q=x / y∧val r=x % y∧Below w.heap.size w w'
def DivW (M:Nat):Prop:=∀ (A A':Option Addr) (n n' c c' x y:Nat) (w:World),Wat w A n (digs x)→Wat w A' n' (digs y)→x<M→y≠0→n≤10000000000→n'≤10000000000 →
 Calls Tryz.prog 200 #[.slice A n c,.slice A' n' c'] w (RetDiv w x y)
theorem compareWords_bel (A A':Option Addr) (n n' c c':Nat) (x y:Nat) (w:World) (h:Wat w A n (digs x)) (h':Wat w A' n' (digs y)) (hm:n≤9223372036854775807) (hm':n'≤9223372036854775807) :
  Calls Tryz.prog 142 #[.slice A n c,.slice A' n' c'] w fun e w'=>e=.returned (.int .i64 (cmpI x y))∧Below w.heap.size w w' :=
 (compareWords_any A A' n n' c c' x y w h h' hm hm').mono fun _ _ ⟨he,k,hk⟩=>⟨he,by rw [hk];exact belowN _ _⟩
theorem field_zw (a b:Value) (w:World):(Instr.field 40 (.agg #[a,b]) 1).run Tryz.prog w=.ok b w:=by kernel_rfl
theorem divWords_less (A A':Option Addr) (n n' c c' x y:Nat) (w:World) (h:Wat w A n (digs x)) (h':Wat w A' n' (digs y)) (hxy:x<y) (hn:n≤10000000000) (hn':n'≤10000000000) :
  Calls Tryz.prog 200 #[.slice A n c,.slice A' n' c'] w (RetDiv w x y):=by
 have hc:cmpI x y = -1:=cmpI_lt (by omega);have T:=compareWords_bel A A' n n' c c' x y w h h' (by omega) (by omega);rw [hc] at T;have T:=Hj T;have hq:x / y=0:=Nat.div_eq_of_lt hxy;have hr:x % y=x:=Nat.mod_eq_of_lt hxy;have HQ:=Hj hq;have HR:=Hj hr;clear hc hq hr hxy;go_enter Tryz.func200,Tryz.ntmps200
 go_wp2_with fail
 refine (T.out).mono ?_;rintro e w1 ⟨rfl,hb1⟩
 go_wp2_with fail
 refine (clone_any A n c (digs x) w1 (h.below hb1) (by omega)).mono ?_;rintro e w2 ⟨A2,c2,rfl,hk2,hcm2,hW2,hF2,hb2⟩;go_wp2;go_ret2;exact ⟨none,0,0,[],A2,n,c2,digs x,rfl,Nat.le_refl _,hk2,by omega,by omega,Wat.nil,hW2,Fresh.nil,hF2.mono hb1.size,by rw [HQ.out];rfl,by rw [HR.out,val_digs],hb1.trans (hb2.mono hb1.size)⟩
theorem divWords_two (A A':Option Addr) (n n' c c' x y:Nat) (w:World) (h:Wat w A n (digs x)) (h':Wat w A' n' (digs y)) (hxy:y≤x) (hx:x<18446744073709551616) (hy:y≠0) (hn:n≤10000000000) (hn':n'≤10000000000) :
  Calls Tryz.prog 200 #[.slice A n c,.slice A' n' c'] w (RetDiv w x y):=by
 have hc:0≤cmpI x y:=by
  rcases Nat.lt_or_ge y x with h1|h1
  ·rw [cmpI_gt (by omega)];decide
  ·rw [cmpI_eq (by omega)];decide
 have T:=compareWords_bel A A' n n' c c' x y w h h' (by omega) (by omega);generalize cmpI x y=cc at *;have T:=Hj T;have hl2:n≤2:=by rw [← h.1];exact len_le_two hx
 have hl2':n'≤2:=by rw [← h'.1];exact len_le_two (by omega)
 have hq:IntKind.u64.wrap ((x:Int).tdiv (y:Int))=((x / y:Nat):Int):=by
  rw [IntWalk.u64_quo _ _ ⟨by omega,by omega,by omega⟩];omega
 have hr:(x:Int).tmod (y:Int)=((x % y:Nat):Int):=by rw [IntWalk.rem_in _ _ (by omega)];omega
 have hq':IntKind.u64.wrap ((x:Int) / (y:Int))=((x / y:Nat):Int):=by
  have e:(x:Int) / (y:Int)=((x / y:Nat):Int):=by omega
  have:=Nat.lt_of_le_of_lt (Nat.div_le_self x y) hx;rw [e,IntKind.wrap_u64];generalize x / y=q at *;clear hq;omega
 have hr':(x:Int) % (y:Int)=((x % y:Nat):Int):=by omega
 have hy0:((y:Int) == 0)=false:=by simp;exact hy
 have hqb:x / y<18446744073709551616:=Nat.lt_of_le_of_lt (Nat.div_le_self _ _) hx;have hrb:x % y<18446744073709551616:=Nat.lt_of_le_of_lt (Nat.mod_le _ _) hx;have HQB:=Hj hqb;have HRB:=Hj hrb;have HV1:=Hj (val_digs x);have HV2:=Hj (val_digs y);clear hqb hrb hxy hx;have hfld:=field_zw;generalize hqe:x / y=q at *;generalize hre:x % y=r at *;have HQE:=Hj hqe;have HRE:=Hj hre;clear hqe hre;go_enter Tryz.func200,Tryz.ntmps200
 go_wp2_with fail
 refine (T.out).mono ?_;rintro e w1 ⟨rfl,hb1⟩
 go_wp2_with fail
 refine (low_bel A n c _ w1 (h.below hb1) hl2).mono ?_;rw [HV1.out];rintro e w2 ⟨rfl,hb2⟩
 go_wp2_with fail
 have hb12:=hb1.trans (hb2.mono hb1.size);refine (low_bel A' n' c' _ w2 (h'.below hb12) hl2').mono ?_;rw [HV2.out];rintro e W ⟨rfl,hb3⟩;have hbW:Below w.heap.size w W:=hb12.trans (hb3.mono hb12.size);clear hb1 hb2 hb12 hb3 T
 go_wp2_with fail
 have s4:=Kp.refl W;have hS:∀ w',Kp W w'→(True)∧Kp W w':=fun w' hk=>⟨⟨⟩,hk⟩;have HS:=Hj hS;clear hS
 go_region_held3 (fun w'=>(True)∧Kp W w')
  (with_reducible first|(refine HS.out _ ?_;assumption)|(refine HS.out _ (Kp.drew ?_);assumption)|(refine' HS.out _ (Kp.drew (And.right ?_));rotate_left;assumption))
  (first
   | (go_at_call_of 135 (Value.int .u64 (q:Int));have hk:=And.right ‹_∧Kp W _›;refine (small_any false q _ HQB.out).mono ?_;rintro e w3 ⟨A3,k3,c3,rfl,hk3,hW3,hF3,hb3⟩;have hz3:=Below.size hk;have hr3:=hk.trans hb3)
   | (go_at_call_of 135 (Value.int .u64 (r:Int));have hk:=And.right ‹_∧Kp W _›;refine (small_any false r _ HRB.out).mono ?_;rintro e w4 ⟨A4,k4,c4,rfl,hk4,hW4,hF4,hb4⟩;have hz4:=Below.size hk;have hr4:=hk.trans hb4))
 have h3:=hW3.1;have h4:=hW4.1;rw [sg_natAbs] at hW3 hW4 h3 h4;have b3:k3≤2:=by rw [← h3];exact len_le_two HQB.out
 have b4:k4≤2:=by rw [← h4];exact len_le_two HRB.out
 have hz5:=HS;have hfin:RetDiv w x y (.returned (.tuple #[.slice A3 k3 c3,.slice A4 k4 c4])) w4 :=
  ⟨A3,k3,c3,_,A4,k4,c4,_,rfl,hk3,hk4,by omega,by omega,hW3.below hb4,hW4,(hF3.keep hW3 hb4).mono hbW.size,hF4.mono (Nat.le_trans hbW.size hz4),by rw [val_digs,HQE.out],by rw [val_digs,HRE.out],hbW.trans (Below.mono hr4 hbW.size)⟩
 have HF:=Hj hfin;clear hfin h3 h4 hz5;go_wp2;go_ret2;exact HF.out
theorem divW_small:DivW 18446744073709551616:=by
 intro A A' n n' c c' x y w h h' hx hy hn hn';rcases Nat.lt_or_ge x y with hlt|hge
 ·exact divWords_less A A' n n' c c' x y w h h' hlt hn hn'
 ·exact divWords_two A A' n n' c c' x y w h h' hge hx hy hn hn'
def readW (w:World):Value→Nat
 | .slice (some a) n _=>val ((List.range n).map fun j=>match w.cell? ⟨a.block,a.off+j,none⟩ with|some (.int _ z)=>z.toNat|_=>0)
 | _=>0
theorem Wat.read {w:World} {A:Option Addr} {n:Nat} {l:List Nat} (h:Wat w A n l) (c:Nat):readW w (.slice A n c)=val l:=by
 rcases Nat.eq_zero_or_pos n with h0|h0
 ·subst h0;obtain rfl:l=[]:=List.eq_nil_of_length_eq_zero h.1;cases A<;>rfl
 ·obtain ⟨b,o,rfl,hb,hc⟩:=h.2.2 (by omega);show val _=val l
  congr 1
  apply List.ext_getElem
  ·simp [h.1]
  ·intro j h1 h2;simp only [List.getElem_map,List.getElem_range];have hj:j<n:=by simpa using h1
   rw [hc j hj,List.getElem?_eq_getElem h2]
   rfl
def GcdL (w W:World) (M x y:Nat) (t5 t6:Value) (wr:World):Prop :=
 ∃ A n c X A' n' c' Y,t5=.slice A n c∧t6=.slice A' n' c'∧n≤c∧n'≤c'∧n≤10000000000∧n'≤10000000000∧Wat wr A n (digs X)∧Wat wr A' n' (digs Y)∧X<M∧Y<M∧Nat.gcd X Y=Nat.gcd x y∧RS (w.heap.size+1+1) 40 W wr
theorem gcd_any (M:Nat) (hM:∀ x,x<M→(digs x).length≤10000000000) (HD:DivW M) (neg neg':Bool) (A A':Option Addr) (n n' c c':Nat) (l l':List Nat) (w:World) (h:Wat w A n l) (h':Wat w A' n' l') (hnc:n≤c) (hnc':n'≤c') (hm:n≤10000000000) (hm':n'≤10000000000)
  (hx:val l<M) (hy:val l'<M) :
  Calls Tryz.prog 152 #[.agg #[.bool neg,.slice A n c],.agg #[.bool neg',.slice A' n' c']] w (RetZ w (Nat.gcd (val l) (val l'):Nat)):=by
 have HMM:=Hj hM;have HXM:=Hj hx;have HYM:=Hj hy;clear hM hx hy;go_enter Tryz.func152,Tryz.ntmps152
 go_wp2_with fail
 obtain ⟨hB0,hB1,hB2,hBW,hsz⟩:=pre3 w 40 #[.bool neg,.slice A n c] 40 #[.bool neg',.slice A' n' c'] 40 #[.bool false,.slice none 0 0];generalize ((w.alloc (.cells #[.bool neg,.slice A n c] 40)).alloc (.cells #[.bool neg',.slice A' n' c'] 40)).alloc (.cells #[.bool false,.slice none 0 0] 40)=W at *;have HSZ:=Hj hsz;clear hsz;have s4:=RS.start hB2;have hw:∀ w',RS (w.heap.size+1+1) 40 W w'→Wat w' A n l∧Wat w' A' n' l':=fun w' hk=>⟨h.below (hBW.trans (hk.1.mono (by omega))),h'.below (hBW.trans (hk.1.mono (by omega)))⟩;have HW:=Hj hw;have hle:=h.trim_le;have hle':=h'.trim_le;clear hw;have T1:=Hj (fun W1 (hb:RS (w.heap.size+1+1) 40 W W1)=>trim_any A n c l W1 (HW.out _ hb).1 hnc (by omega));have T2:=Hj (fun W1 (hb:RS (w.heap.size+1+1) 40 W W1)=>trim_any A' n' c' l' W1 (HW.out _ hb).2 hnc' (by omega));obtain ⟨c0,c1,-,-⟩:=hB0.two;obtain ⟨c2,c3,-,-⟩:=hB1.two
 go_quiet ((first|(go_at_call_of 141 (Value.slice A n c);exact quiet_left (T1.out _ (s4.drewN _)))|(go_at_call_of 141 (Value.slice A' n' c');exact quiet_left (T2.out _ (s4.drewN _)))))
 have s5:=s4.drewN nq;clear T1 T2 s4 c0 c1 c2 c3 hB0 hB1 hB2;have hst:GcdL w W M (val l) (val l') (.slice A (digs (val l)).length c) (.slice A' (digs (val l')).length c') (W.drewN nq) :=
  ⟨A,_,c,val l,A',_,c',val l',rfl,rfl,by omega,by omega,by omega,by omega,(HW.out _ s5).1.trim,(HW.out _ s5).2.trim,HXM.out,HYM.out,rfl,s5⟩
 clear s5 HXM HYM HW hle hle';generalize W.drewN nq=W1 at *
 go_wp2_with fail
 go_loopw [5,6] (fun t5 t6 wr=>GcdL w W M (val l) (val l') t5 t6 wr) (fun _ t6 wr=>readW wr t6)
 case atStart=>exact hst
 case round =>
  obtain ⟨B,m,d,X,B',m',d',Y,rfl,rfl,hmd,hmd',hm1,hm2,hWX,hWY,hXM,hYM,hg,hRS⟩:=hrel;have HXM:=Hj hXM;have HYM:=Hj hYM;have HG:=Hj hg;clear hst hXM hYM hg;by_cases hy0:Y=0
  ·subst hy0;have hm0:m'=0:=by have:=hWY.1;rw [digs_zero] at this;exact this.symm
   subst hm0;have hX:X=Nat.gcd (val l) (val l'):=by rw [← HG.out,Nat.gcd_zero_right]
   subst hX;clear HG HYM;generalize Nat.gcd (val l) (val l')=gg at *
   go_wp2_with fail
   refine (clone_any B m d (digs gg) wr hWX (by omega)).mono ?_;rintro e w2 ⟨A2,c2,rfl,hk2,hcm2,hW2,hF2,hb2⟩
   go_wp2_with fail
   refine (build_any false A2 m c2 (digs gg) w2 hW2 hk2 (by omega)).mono ?_;intro e w5 hr;have hr:=RetZ.of_in hb2 hW2 hF2 hk2 hr;rw [val_digs,show sg false gg=((gg:Nat):Int) from rfl] at hr;obtain ⟨A5,k5,c5,rfl,hk5,hW5,hF5,hb5⟩:=hr;have hz5:=hRS.1.size;have hr5:=hRS.call hb5;obtain ⟨_,_,c0,c1,f0,f1⟩:=hr5.two;have hfin:=retZ_close hBW (by omega) (by have:=HSZ.out;omega) hr5 hk5 hW5 hF5;obtain ⟨d0,d1,-,-⟩:=(hr5.done (.bool (decide (((gg:Nat):Int)<0))) (.slice A5 k5 c5)).two;have HF:=Hj hfin;clear hfin hr;go_wp2;refine bodyPost_ret (v:=.agg #[.bool (decide (((gg:Nat):Int)<0)),.slice A5 k5 c5]) ?_ rfl HF.out;simp [results,Tryz.results152,go_sem,d0,d1]
  ·have hm0:0<m':=by
    have:=hWY.1;rcases Nat.eq_zero_or_pos m' with h0|h0
    ·subst h0;exact absurd (digs_nil (List.eq_nil_of_length_eq_zero this)) hy0
    ·exact h0
   by_cases hbig:2<m∨2<m'
   ·have hb':2<m∨(¬ 2<m∧2<m'):=by omega
    clear hbig;rcases hb' with hb1|⟨hb1,hb2⟩
    all_goals
     go_wp2_with fail
     refine (HD B B' m m' d d' X Y wr hWX hWY HXM.out hy0 hm1 hm2).mono ?_;rintro e w2 ⟨A1,n1,c1,q,A2,n2,c2,r,rfl,hn1,hn2,hl1,hl2,hW1,hW2,hF1,hF2,hq,hr,hb⟩;have HR:=Hj hr;have HQ:=Hj hq;clear hr hq
     go_wp2_with fail
     refine (trim_any A2 n2 c2 r w2 hW2 hn2 (by omega)).mono ?_;rw [HR.out];rintro e w' ⟨rfl,rfl⟩;have hT:=hW2.trim;rw [HR.out] at hT;have hlt:X % Y<Y:=Nat.mod_lt _ (by omega);have hrel:GcdL w W M (val l) (val l') (.slice B' m' d') (.slice A2 (digs (X % Y)).length c2) w2 :=
      ⟨B',m',d',Y,A2,_,c2,X % Y,rfl,rfl,hmd',Nat.le_trans (by have:=hW2.trim_le;rwa [HR.out] at this) hn2,hm2,HMM.out _ (Nat.lt_trans hlt HYM.out),hWY.below hb,hT,HYM.out,Nat.lt_trans hlt HYM.out,by rw [← HG.out,Nat.gcd_comm Y,← Nat.gcd_rec,Nat.gcd_comm],hRS.call hb⟩
     have hms:readW w2 (.slice A2 (digs (X % Y)).length c2)<readW wr (.slice B' m' d'):=by
      rw [hT.read,hWY.read,val_digs,val_digs];exact hlt
     have HREL:=Hj hrel;have HMS:=Hj hms;clear hrel hms hT hlt;go_wp2;exact ⟨HREL.out,HMS.out⟩
   ·have hs1:m≤2:=by omega
    have hs2:m'≤2:=by omega
    clear hbig;have hX2:X<18446744073709551616:=by
     have:=digs_len_le.1 (Nat.le_of_eq hWX.1);have:=(@digs_len_le X 2).1 (by rw [hWX.1];exact hs1);rwa [pow2] at this
    have hY2:Y<18446744073709551616:=by
     have:=(@digs_len_le Y 2).1 (by rw [hWY.1];exact hs2);rwa [pow2] at this
    have HX2:=Hj hX2;have HY2:=Hj hY2;clear hX2 hY2
    go_wp2_with fail
    refine (low_bel B m d _ wr hWX hs1).mono ?_;rw [val_digs];rintro e w2 ⟨rfl,hb2⟩
    go_wp2_with fail
    refine (low_bel B' m' d' _ w2 (hWY.below hb2) hs2).mono ?_;rw [val_digs];rintro e w3 ⟨rfl,hb3⟩;have hRS3:=(hRS.call hb2).call hb3;clear hWX hWY hb2 hb3 hRS
    go_wp2_with fail
    go_loopw [9,10] (fun t9 t10 ws=>∃ a b k:Nat,t9=.int .u64 a∧t10=.int .u64 b∧Hid (Nat.gcd a b=Nat.gcd (val l) (val l')∧a<18446744073709551616∧b<18446744073709551616)∧ws=w3.drewN k) (fun _ t10 _=>(intOf t10).toNat)
    case atStart=>exact ⟨X,Y,0,rfl,rfl,⟨HG.out,HX2.out,HY2.out⟩,rfl⟩
    case round =>
     obtain ⟨a,b,k,rfl,rfl,hab,rfl⟩:=hrel;by_cases hb0:b=0
     ·subst hb0;have ha:a=Nat.gcd (val l) (val l'):=by rw [← hab.out.1,Nat.gcd_zero_right]
      have HA2:=Hj hab.out.2.1;subst ha;clear hab;generalize Nat.gcd (val l) (val l')=gg at *;have hRS4:=hRS3.drewN k
      go_wp2_with fail
      refine (small_any false gg _ HA2.out).mono ?_;have hsg:sg false gg=((gg:Nat):Int):=rfl;rw [hsg];rintro e w5 ⟨A5,k5,c5,rfl,hk5,hW5,hF5,hb5⟩;have hz5:=hRS4.1.size;have hr5:=hRS4.call hb5;obtain ⟨_,_,c0,c1,f0,f1⟩:=hr5.two;have HSG:=Hj hsg;clear hsg HA2 hRS3 hRS4 hb5;have hfin:=retZ_close hBW (by omega) (by have:=HSZ.out;omega) hr5 hk5 hW5 hF5;obtain ⟨d0,d1,-,-⟩:=(hr5.done (.bool (decide (((gg:Nat):Int)<0))) (.slice A5 k5 c5)).two;have HF:=Hj hfin;clear hfin;go_wp2;refine bodyPost_ret (v:=.agg #[.bool (decide (((gg:Nat):Int)<0)),.slice A5 k5 c5]) ?_ rfl HF.out;simp [results,Tryz.results152,go_sem,d0,d1]
     ·have hr1:(a:Int).tmod (b:Int)=((a % b:Nat):Int):=by rw [IntWalk.rem_in _ _ (by omega)];omega
      have hr2:(a:Int) % (b:Int)=((a % b:Nat):Int):=by omega
      have hbz:((b:Int) == 0)=false:=by simp;exact hb0
      have hlt:a % b<b:=Nat.mod_lt _ (by omega);have hnew:Hid (Nat.gcd b (a % b)=Nat.gcd (val l) (val l')∧b<18446744073709551616∧a % b<18446744073709551616) :=
       ⟨by rw [← hab.out.1,Nat.gcd_comm b,← Nat.gcd_rec,Nat.gcd_comm],hab.out.2.2,Nat.lt_trans hlt hab.out.2.2⟩
      have hbp:(0:Int)<(b:Int):=by omega
      clear hab;generalize a % b=rr at *
      go_wp2_with fail
      go_quiet (fail)
      go_wp2;exact ⟨⟨b,rr,_,rfl,rfl,hnew,World.drewN_drewN _ _ _⟩,by simp [intOf];omega⟩
def RetDM (w:World) (z:Int) (e:Ending) (w':World):Prop :=
 ∃ A k c,e=.returned (.tuple #[.agg #[.bool (decide (z<0)),.slice A k c],.agg #[.bool false,.slice none 0 0],.int .i64 0])∧k≤c∧Wat w' A k (digs z.natAbs)∧Fresh w.heap.size w' A k∧Below w.heap.size w w'
theorem in_parts {base:Nat} {w w':World} {A:Option Addr} {n c:Nat} {l:List Nat} {neg:Bool} {e:Ending} (hW:Wat w A n l) (hF:Fresh base w A n) (hnc:n≤c)
  (h:RetIn w A c (sg neg (val l)) e w') :
  ∃ A' k c',e=.returned (.agg #[.bool (decide (sg neg (val l)<0)),.slice A' k c'])∧k≤c'∧Wat w' A' k (digs (sg neg (val l)).natAbs)∧Fresh base w' A' k∧Below w.heap.size w w':=by
 obtain ⟨A',c',he,h1,h2,hB⟩:=h;have hna:=sg_natAbs neg (val l);by_cases hz:sg neg (val l)=0
 ·obtain ⟨rfl,rfl⟩:=h2 hz;rw [hna] at he;have h0:val l=0:=by have:=congrArg Int.natAbs hz;rw [hna] at this;exact this
  rw [h0,digs_zero] at he;refine ⟨none,0,0,?_,Nat.le_refl _,?_,Fresh.nil,hB⟩
  ·rw [h0];exact he
  ·rw [hna,h0,digs_zero];exact Wat.nil
 ·obtain ⟨rfl,rfl⟩:=h1 hz;rw [hna] at he;refine ⟨A',_,c',he,Nat.le_trans hW.trim_le hnc,?_,?_,hB⟩
  ·rw [hna];exact hW.trim.below hB
  ·exact (hF.shorter hW.trim_le).keep hW.trim hB
theorem retDM_close {w w2:World} {A:Option Addr} {k c:Nat} {z:Int} (hb:Below w.heap.size w w2) (hsz:w.heap.size+1+1+1+1≤w2.heap.size) (hk:k≤c)
  (hW:Wat w2 A k (digs z.natAbs)) (hF:Fresh (w.heap.size+1+1+1+1) w2 A k) (hB2:Blk w2 (w.heap.size+1+1) 40 #[.bool false,.slice none 0 0]) (hB3:Blk w2 (w.heap.size+1+1+1) 40 #[.bool false,.slice none 0 0]) :
  RetDM w z (.returned (.tuple #[.agg #[.bool (decide (z<0)),.slice A k c],.agg #[.bool false,.slice none 0 0],.int .i64 0])) ((((w2.setCell ⟨w.heap.size+1+1,0,none⟩ (.bool (decide (z<0)))).setCell ⟨w.heap.size+1+1,1,none⟩ (.slice A k c)).setCell ⟨w.heap.size+1+1+1,0,none⟩ (.bool false)).setCell ⟨w.heap.size+1+1+1,1,none⟩ (.slice none 0 0)) ∧
  Blk ((((w2.setCell ⟨w.heap.size+1+1,0,none⟩ (.bool (decide (z<0)))).setCell ⟨w.heap.size+1+1,1,none⟩ (.slice A k c)).setCell ⟨w.heap.size+1+1+1,0,none⟩ (.bool false)).setCell ⟨w.heap.size+1+1+1,1,none⟩ (.slice none 0 0)) (w.heap.size+1+1) 40 #[.bool (decide (z<0)),.slice A k c] ∧
  Blk ((((w2.setCell ⟨w.heap.size+1+1,0,none⟩ (.bool (decide (z<0)))).setCell ⟨w.heap.size+1+1,1,none⟩ (.slice A k c)).setCell ⟨w.heap.size+1+1+1,0,none⟩ (.bool false)).setCell ⟨w.heap.size+1+1+1,1,none⟩ (.slice none 0 0)) (w.heap.size+1+1+1) 40 #[.bool false,.slice none 0 0]:=by
 have hW1:=hW.setFar (base:=w.heap.size+1+1+1+1) hF (p:=⟨w.heap.size+1+1,0,none⟩) (by simp) (.bool (decide (z<0)));have hF1:=hF.set ⟨w.heap.size+1+1,0,none⟩ (.bool (decide (z<0)));have hW2:=hW1.setFar hF1 (p:=⟨w.heap.size+1+1,1,none⟩) (by simp) (.slice A k c);have hF2:=hF1.set ⟨w.heap.size+1+1,1,none⟩ (.slice A k c);have hW3:=hW2.setFar hF2 (p:=⟨w.heap.size+1+1+1,0,none⟩) (by simp) (.bool false);have hF3:=hF2.set ⟨w.heap.size+1+1+1,0,none⟩ (.bool false);have hW4:=hW3.setFar hF3 (p:=⟨w.heap.size+1+1+1,1,none⟩) (by simp) (.slice none 0 0);have hF4:=hF3.set ⟨w.heap.size+1+1+1,1,none⟩ (.slice none 0 0);refine ⟨⟨A,k,c,rfl,hk,hW4,hF4.mono (by omega),below_set2 (below_set2 hb (by omega) _ _) (by omega) _ _⟩,?_,?_⟩
 ·exact ((hB2.set2 _ _).far (by simp) _).far (by simp) _
 ·exact ((hB3.far (by simp) _).far (by simp) _).set2 _ _
theorem divMod_exact (M:Nat) (HD:DivW M) (neg neg':Bool) (A A':Option Addr) (n n' c c':Nat) (l l':List Nat) (w:World) (h:Wat w A n l) (h':Wat w A' n' l') (hnc:n≤c) (hnc':n'≤c') (hm:n≤10000000000) (hm':n'≤10000000000)
  (hx:val l<M) (hy:val l'≠0) (hdv:val l' ∣ val l) :
  Calls Tryz.prog 153 #[.agg #[.bool neg,.slice A n c],.agg #[.bool neg',.slice A' n' c']] w (RetDM w (sg (neg != neg') (val l / val l'))):=by
 have HXM:=Hj hx;have hr0:val l % val l'=0:=Nat.mod_eq_zero_of_dvd hdv;have HR0:=Hj hr0;clear hx hr0;have hm0:(digs (val l')).length≠0:=fun hh=>hy (digs_nil (List.eq_nil_of_length_eq_zero hh));go_enter Tryz.func153,Tryz.ntmps153
 go_wp2_with fail
 have hB0:=(((Blk.new w 40 #[.bool neg,.slice A n c]).alloc (.cells #[.bool neg',.slice A' n' c'] 40)).alloc (.cells #[.bool false,.slice none 0 0] 40)).alloc (.cells #[.bool false,.slice none 0 0] 40);have hB1:=((Blk.new1 w (.cells #[.bool neg,.slice A n c] 40) 40 #[.bool neg',.slice A' n' c']).alloc (.cells #[.bool false,.slice none 0 0] 40)).alloc (.cells #[.bool false,.slice none 0 0] 40);have hB2:=(Blk.new2 w (.cells #[.bool neg,.slice A n c] 40) (.cells #[.bool neg',.slice A' n' c'] 40) 40 #[.bool false,.slice none 0 0]).alloc (.cells #[.bool false,.slice none 0 0] 40);have hB3:=Blk.new3 w (.cells #[.bool neg,.slice A n c] 40) (.cells #[.bool neg',.slice A' n' c'] 40) (.cells #[.bool false,.slice none 0 0] 40) 40 #[.bool false,.slice none 0 0];have hBW:Below w.heap.size w ((((w.alloc (.cells #[.bool neg,.slice A n c] 40)).alloc (.cells #[.bool neg',.slice A' n' c'] 40)).alloc (.cells #[.bool false,.slice none 0 0] 40)).alloc (.cells #[.bool false,.slice none 0 0] 40)):=((((Below.refl _ _).alloc (Nat.le_refl _) _).alloc (by simp only [World.size_alloc];omega) _).alloc (by simp only [World.size_alloc];omega) _).alloc (by simp only [World.size_alloc];omega) _;have hsz:((((w.alloc (.cells #[.bool neg,.slice A n c] 40)).alloc (.cells #[.bool neg',.slice A' n' c'] 40)).alloc (.cells #[.bool false,.slice none 0 0] 40)).alloc (.cells #[.bool false,.slice none 0 0] 40)).heap.size=w.heap.size+1+1+1+1:=by simp
 generalize (((w.alloc (.cells #[.bool neg,.slice A n c] 40)).alloc (.cells #[.bool neg',.slice A' n' c'] 40)).alloc (.cells #[.bool false,.slice none 0 0] 40)).alloc (.cells #[.bool false,.slice none 0 0] 40)=W at *;have HSZ:=Hj hsz;clear hsz;have hle:=h.trim_le;have hle':=h'.trim_le;have hw1:=h.below hBW;have hw2:=h'.below hBW;have T1:=Hj (fun k=>trim_any A n c l (W.drewN k) hw1 hnc (by omega));have T2:=Hj (fun k=>trim_any A' n' c' l' (W.drewN k) hw2 hnc' (by omega));obtain ⟨c0,c1,-,-⟩:=hB0.two;obtain ⟨c2,c3,-,-⟩:=hB1.two
 go_quiet ((first|(go_at_call_of 141 (Value.slice A n c);exact quiet_left (T1.out _))|(go_at_call_of 141 (Value.slice A' n' c');exact quiet_left (T2.out _))))
 have hd1:=(hw1.drewN nq).trim;have hd2:=(hw2.drewN nq).trim;have hB0:=hB0.drewN nq;have hB1:=hB1.drewN nq;have hB2:=hB2.drewN nq;have hB3:=hB3.drewN nq;have hBW:=below_drewN hBW nq;clear T1 T2 c0 c1 c2 c3 hw1 hw2;have HSZ2:Hid ((W.drewN nq).heap.size=w.heap.size+1+1+1+1):=HSZ.out;clear HSZ;generalize W.drewN nq=W1 at *;have T3:=Hj (HD A A' _ _ c c' (val l) (val l') W1 hd1 hd2 HXM.out hy (by omega) (by omega));generalize (digs (val l)).length=k at *;generalize (digs (val l')).length=k' at *;have hk0:((k':Int) == 0)=false:=by simpa using hm0
 clear hd1 hd2
 go_wp2_with fail
 refine T3.out.mono ?_;rintro e w2 ⟨A1,n1,c1,q,A2,n2,c2,r,rfl,hn1,hn2,hl1,hl2,hW1,hW2,hF1,hF2,hq,hr,hb⟩;rw [HR0.out] at hr;have HQ:=Hj hq;have HR:=Hj hr;clear hq hr
 go_wp2_with fail
 refine (trim_any A2 n2 c2 r w2 hW2 hn2 (by omega)).mono ?_;rw [HR.out,digs_zero];rintro e w' ⟨rfl,rfl⟩;have hB0:=hB0.below hb (by have:=HSZ2.out;omega);have hB1:=hB1.below hb (by have:=HSZ2.out;omega);have hB2:=hB2.below hb (by have:=HSZ2.out;omega);have hB3:=hB3.below hb (by have:=HSZ2.out;omega);obtain ⟨e0,e1,-,-⟩:=hB0.two;obtain ⟨e2,e3,-,-⟩:=hB1.two;have hb2:Below w.heap.size w w2:=hBW.trans (hb.mono hBW.size);have hsz2:w.heap.size+1+1+1+1≤w2.heap.size:=by have:=HSZ2.out;have:=hb.size;omega
 have HF1:Fresh (w.heap.size+1+1+1+1) w2 A1 n1:=by rw [← HSZ2.out];exact hF1
 clear hb hF1 hF2 hBW HSZ2 T3;cases neg
 all_goals
  go_wp2_with fail
  refine (build_any _ A1 n1 _ q w2 hW1 hn1 (by omega)).mono ?_;intro e w3 hr;obtain ⟨A3,k3,c3,rfl,hk3,hW3,hF3,hb3⟩:=in_parts hW1 HF1 hn1 hr;clear hr
  go_wp2_with fail
  refine (build_any false A2 0 _ [] w3 Wat.nil (Nat.zero_le _) (by omega)).mono ?_;rintro e w4 ⟨A4,c4,rfl,-,h40,hb4⟩;obtain ⟨rfl,rfl⟩:=h40 rfl;rw [show sg false (val [])=0 from rfl,show (digs (Int.natAbs 0)).length=0 by rw [show Int.natAbs 0=0 from rfl,digs_zero];rfl,show decide ((0:Int)<0)=false from rfl];have hW4:=hW3.below hb4;have hF4:=hF3.keep hW3 hb4;have hbb:Below w2.heap.size w2 w4:=hb3.trans (hb4.mono hb3.size);rw [HQ.out] at hW4;have hfin:=retDM_close (hb2.trans (hbb.mono hb2.size)) (Nat.le_trans hsz2 hbb.size) hk3 hW4 hF4 (hB2.below hbb (by omega)) (hB3.below hbb (by omega));rw [HQ.out];obtain ⟨h1,h2,h3⟩:=hfin;obtain ⟨d0,d1,-,-⟩:=h2.two;obtain ⟨d2,d3,-,-⟩:=h3.two;obtain ⟨x0,x1,y0,y1⟩:=(hB2.below hbb (by omega)).two;have hB3':=(hB3.below hbb (by omega));obtain ⟨x2,x3,y2,y3⟩:=hB3'.two;have HF:=Hj h1;have D0:=Hj d0;have D1:=Hj d1;have D2:=Hj d2;have D3:=Hj d3;clear h1 h2 h3 d0 d1 d2 d3 hB0 hB1 hB2 hB3 hB3' e0 e1 e2 e3 h40 hW4 hF4 hW3 hF3 hW1 hW2 HF1;generalize val l / val l'=qq at *;go_wp2
  first|rw [show (false != neg')=neg' by cases neg'<;>rfl]|rw [show (true != neg')=(!neg') by cases neg'<;>rfl]
  refine bodyPost_ret (v:=_) ?_ rfl HF.out;have d0:=D0.out;have d1:=D1.out;have d2:=D2.out;have d3:=D3.out;simp [results,Tryz.results153,go_sem,d0,d1,d2,d3]
theorem wrap_toNat (v:BitVec 64):IntKind.i64.wrap (v.toNat:Int)=v.toInt:=by
 rw [IntKind.wrap_i64,BitVec.toInt_eq_toNat_cond];have:=v.isLt;split<;>omega
theorem bits_and (a b:Int):bits .and .i64 a b=(BitVec.ofInt 64 a &&& BitVec.ofInt 64 b).toInt:=wrap_toNat _
theorem bits_xor (a b:Int):bits .xor .i64 a b=(BitVec.ofInt 64 a ^^^ BitVec.ofInt 64 b).toInt:=wrap_toNat _
theorem msb_of (x:Int) (h:Fits x):(BitVec.ofInt 64 x).msb=decide (x<0):=by
 rw [BitVec.msb_eq_toInt,BitVec.toInt_ofInt]
 congr 1
 have e:x.bmod (2 ^ 64)=x:=by
  obtain ⟨h1,h2⟩:=h;apply Int.bmod_eq_of_le<;>omega
 rw [e]
theorem toInt_nonneg (v:BitVec 64) (h:v.msb=false):0≤v.toInt:=by
 rw [BitVec.msb_eq_toInt] at h;simpa using h
theorem ov_add (x y:Int) (hx:Fits x) (hy:Fits y) (h:Fits (x+y)):decide (0≤bits .and .i64 (bits .xor .i64 x (x+y)) (bits .xor .i64 y (x+y)))=true:=by
 rw [bits_and,bits_xor,bits_xor,BitVec.ofInt_toInt,BitVec.ofInt_toInt];refine decide_eq_true (toInt_nonneg _ ?_);rw [BitVec.msb_and,BitVec.msb_xor,BitVec.msb_xor,msb_of x hx,msb_of y hy,msb_of (x+y) h];by_cases h1:x<0<;>by_cases h2:y<0<;>by_cases h3:x+y<0<;>simp [h1,h2,h3]<;>omega
theorem ov_sub (x y:Int) (hx:Fits x) (hy:Fits y) (h:Fits (x-y)):decide (0≤bits .and .i64 (bits .xor .i64 x y) (bits .xor .i64 x (x-y)))=true:=by
 rw [bits_and,bits_xor,bits_xor,BitVec.ofInt_toInt,BitVec.ofInt_toInt];refine decide_eq_true (toInt_nonneg _ ?_);rw [BitVec.msb_and,BitVec.msb_xor,BitVec.msb_xor,msb_of x hx,msb_of y hy,msb_of (x-y) h];by_cases h1:x<0<;>by_cases h2:y<0<;>by_cases h3:x-y<0<;>simp [h1,h2,h3]<;>omega
def AddOK (M:Nat):Prop:=∀ (neg neg':Bool) (A A':Option Addr) (n n' c c':Nat) (l l':List Nat) (w:World),Wat w A n l→Wat w A' n' l'→n≤c→n'≤c'→n≤10000000000→n'≤10000000000→val l<M→val l'<M →
 Calls Tryz.prog 191 #[.agg #[.bool neg,.slice A n c],.agg #[.bool neg',.slice A' n' c']] w (RetZ w (sg neg (val l)+sg neg' (val l')))
def SubOK (M:Nat):Prop:=∀ (neg neg':Bool) (A A':Option Addr) (n n' c c':Nat) (l l':List Nat) (w:World),Wat w A n l→Wat w A' n' l'→n≤c→n'≤c'→n≤10000000000→n'≤10000000000→val l<M→val l'<M →
 Calls Tryz.prog 193 #[.agg #[.bool neg,.slice A n c],.agg #[.bool neg',.slice A' n' c']] w (RetZ w (sg neg (val l)-sg neg' (val l')))
theorem add_fits (neg neg':Bool) (A A':Option Addr) (n n' c c':Nat) (l l':List Nat) (w:World) (h:Wat w A n l) (h':Wat w A' n' l') (hnc:n≤c) (hnc':n'≤c') (hm:n≤10000000000) (hm':n'≤10000000000)
  (hx:Fits (sg neg (val l))) (hy:Fits (sg neg' (val l'))) (hxy:Fits (sg neg (val l)+sg neg' (val l'))) :
  Calls Tryz.prog 191 #[.agg #[.bool neg,.slice A n c],.agg #[.bool neg',.slice A' n' c']] w (RetZ w (sg neg (val l)+sg neg' (val l'))):=by
 have T1:=fun W hW=>int64_yes neg A n c l W hW hnc (by omega) hx;have T2:=fun W hW=>int64_yes neg' A' n' c' l' W hW hnc' (by omega) hy;generalize sg neg (val l)=x at *;generalize sg neg' (val l')=y at *;have T1:=Hj T1;have T2:=Hj T2;have hov:decide (0≤bits .and .i64 (bits .xor .i64 x (x+y)) (bits .xor .i64 y (x+y)))=true:=ov_add x y hx hy hxy;have hw:IntKind.i64.wrap (x+y)=x+y:=by rw [IntKind.wrap_i64];obtain ⟨h1,h2⟩:=hxy;omega
 have hw':wrap64 (x+y)=x+y:=by unfold wrap64;obtain ⟨h1,h2⟩:=hxy;omega
 have HXY:=Hj hxy;clear hx hy hxy;go_enter Tryz.func191,Tryz.ntmps191
 go_wp2_with fail
 obtain ⟨hB0,hB1,hB2,hBW,hsz⟩:=pre3 w 40 #[.bool neg,.slice A n c] 40 #[.bool neg',.slice A' n' c'] 40 #[.bool false,.slice none 0 0];generalize ((w.alloc (.cells #[.bool neg,.slice A n c] 40)).alloc (.cells #[.bool neg',.slice A' n' c'] 40)).alloc (.cells #[.bool false,.slice none 0 0] 40)=W at *;have HSZ:=Hj hsz;clear hsz;refine (T1.out W (h.below hBW)).mono ?_;rintro e w1 ⟨rfl,hb1⟩;have hB0:=hB0.below hb1 (by have:=HSZ.out;omega);have hB1:=hB1.below hb1 (by have:=HSZ.out;omega);have hB2:=hB2.below hb1 (by have:=HSZ.out;omega);have hb1:Below w.heap.size w w1:=hBW.trans (hb1.mono hBW.size);have hsz1:w.heap.size+1+1+1≤w1.heap.size:=hB2.lt;obtain ⟨c2,c3,-,-⟩:=hB1.two;clear hBW
 go_wp2_with fail
 refine (T2.out w1 (h'.below hb1)).mono ?_;rintro e w2 ⟨rfl,hb2⟩;have hB2:=hB2.below hb2 (by omega);have hb2:Below w.heap.size w w2:=hb1.trans (hb2.mono hb1.size);have hsz2:w.heap.size+1+1+1≤w2.heap.size:=hB2.lt;clear hb1 hsz1 c2 c3 HSZ T1 T2
 go_wp2_with fail
 refine (fromInt64_any (x+y) w2 HXY.out.1 HXY.out.2).mono ?_;rintro e w3 ⟨A3,k3,c3,rfl,hk3,hW3,hF3,hb3⟩;have hr3:=(RS.start hB2).call hb3;obtain ⟨_,_,c0,c1,f0,f1⟩:=hr3.two;generalize x+y=zz at *;have hBW:=hb2;have HSZ:=hsz2;have hfin:=retZ_close hb2 (by omega) (by omega) hr3 hk3 hW3 hF3;obtain ⟨d0,d1,-,-⟩:=(hr3.done (.bool (decide (zz<0))) (.slice A3 k3 c3)).two;have HF:=Hj hfin;clear hfin hBW HSZ;go_wp2;refine bodyPost_ret (v:=.agg #[.bool (decide (zz<0)),.slice A3 k3 c3]) ?_ rfl HF.out;simp [results,Tryz.results191,go_sem,d0,d1]
theorem sub_fits (neg neg':Bool) (A A':Option Addr) (n n' c c':Nat) (l l':List Nat) (w:World) (h:Wat w A n l) (h':Wat w A' n' l') (hnc:n≤c) (hnc':n'≤c') (hm:n≤10000000000) (hm':n'≤10000000000)
  (hx:Fits (sg neg (val l))) (hy:Fits (sg neg' (val l'))) (hxy:Fits (sg neg (val l)-sg neg' (val l'))) :
  Calls Tryz.prog 193 #[.agg #[.bool neg,.slice A n c],.agg #[.bool neg',.slice A' n' c']] w (RetZ w (sg neg (val l)-sg neg' (val l'))):=by
 have T1:=fun W hW=>int64_yes neg A n c l W hW hnc (by omega) hx;have T2:=fun W hW=>int64_yes neg' A' n' c' l' W hW hnc' (by omega) hy;generalize sg neg (val l)=x at *;generalize sg neg' (val l')=y at *;have T1:=Hj T1;have T2:=Hj T2;have hov:decide (0≤bits .and .i64 (bits .xor .i64 x y) (bits .xor .i64 x (x-y)))=true:=ov_sub x y hx hy hxy;have hw:IntKind.i64.wrap (x-y)=x-y:=by rw [IntKind.wrap_i64];obtain ⟨h1,h2⟩:=hxy;omega
 have hw':wrap64 (x-y)=x-y:=by unfold wrap64;obtain ⟨h1,h2⟩:=hxy;omega
 have HXY:=Hj hxy;clear hx hy hxy;go_enter Tryz.func193,Tryz.ntmps193
 go_wp2_with fail
 obtain ⟨hB0,hB1,hB2,hBW,hsz⟩:=pre3 w 40 #[.bool neg,.slice A n c] 40 #[.bool neg',.slice A' n' c'] 40 #[.bool false,.slice none 0 0];generalize ((w.alloc (.cells #[.bool neg,.slice A n c] 40)).alloc (.cells #[.bool neg',.slice A' n' c'] 40)).alloc (.cells #[.bool false,.slice none 0 0] 40)=W at *;have HSZ:=Hj hsz;clear hsz;refine (T1.out W (h.below hBW)).mono ?_;rintro e w1 ⟨rfl,hb1⟩;have hB0:=hB0.below hb1 (by have:=HSZ.out;omega);have hB1:=hB1.below hb1 (by have:=HSZ.out;omega);have hB2:=hB2.below hb1 (by have:=HSZ.out;omega);have hb1:Below w.heap.size w w1:=hBW.trans (hb1.mono hBW.size);have hsz1:w.heap.size+1+1+1≤w1.heap.size:=hB2.lt;obtain ⟨c2,c3,-,-⟩:=hB1.two;clear hBW
 go_wp2_with fail
 refine (T2.out w1 (h'.below hb1)).mono ?_;rintro e w2 ⟨rfl,hb2⟩;have hB2:=hB2.below hb2 (by omega);have hb2:Below w.heap.size w w2:=hb1.trans (hb2.mono hb1.size);have hsz2:w.heap.size+1+1+1≤w2.heap.size:=hB2.lt;clear hb1 hsz1 c2 c3 HSZ T1 T2
 go_wp2_with fail
 refine (fromInt64_any (x-y) w2 HXY.out.1 HXY.out.2).mono ?_;rintro e w3 ⟨A3,k3,c3,rfl,hk3,hW3,hF3,hb3⟩;have hr3:=(RS.start hB2).call hb3;obtain ⟨_,_,c0,c1,f0,f1⟩:=hr3.two;generalize x-y=zz at *;have hBW:=hb2;have HSZ:=hsz2;have hfin:=retZ_close hb2 (by omega) (by omega) hr3 hk3 hW3 hF3;obtain ⟨d0,d1,-,-⟩:=(hr3.done (.bool (decide (zz<0))) (.slice A3 k3 c3)).two;have HF:=Hj hfin;clear hfin hBW HSZ;go_wp2;refine bodyPost_ret (v:=.agg #[.bool (decide (zz<0)),.slice A3 k3 c3]) ?_ rfl HF.out;simp [results,Tryz.results193,go_sem,d0,d1]
theorem addOK_small:AddOK 4611686018427387904:=by
 intro neg neg' A A' n n' c c' l l' w h h' hnc hnc' hm hm' hx hy;have b1:=sg_natAbs neg (val l);have b2:=sg_natAbs neg' (val l');exact add_fits neg neg' A A' n n' c c' l l' w h h' hnc hnc' hm hm' (by unfold Fits;omega) (by unfold Fits;omega) (by unfold Fits;omega)
theorem subOK_small:SubOK 4611686018427387904:=by
 intro neg neg' A A' n n' c c' l l' w h h' hnc hnc' hm hm' hx hy;have b1:=sg_natAbs neg (val l);have b2:=sg_natAbs neg' (val l');exact sub_fits neg neg' A A' n n' c c' l l' w h h' hnc hnc' hm hm' (by unfold Fits;omega) (by unfold Fits;omega) (by unfold Fits;omega)
def denW (d:Nat):List Nat:=if d=1 then [] else digs d
def RetQ (w:World) (q:Rat) (e:Ending) (w':World):Prop :=
 ∃ A k c A' k' c',e=.returned (.agg #[.bool (decide (q.num<0)),.slice A k c,.bool false,.slice A' k' c'])∧k≤c∧k'≤c'∧Wat w' A k (digs q.num.natAbs)∧Wat w' A' k' (denW q.den) ∧
  Fresh w.heap.size w' A k∧Fresh w.heap.size w' A' k'∧Below w.heap.size w w'
theorem retQ_close {w W w2:World} {g base:Nat} {t:TypeId} {A A':Option Addr} {k c k' c':Nat} {q:Rat} (hBW:Below w.heap.size w W) (hg:w.heap.size≤g) (hb:g<base) (hr:RS4 g t W w2) (hk:k≤c) (hk':k'≤c')
  (hW:Wat w2 A k (digs q.num.natAbs)) (hW':Wat w2 A' k' (denW q.den)) (hF:Fresh base w2 A k) (hF':Fresh base w2 A' k') :
  RetQ w q (.returned (.agg #[.bool (decide (q.num<0)),.slice A k c,.bool false,.slice A' k' c'])) ((((w2.setCell ⟨g,0,none⟩ (.bool (decide (q.num<0)))).setCell ⟨g,1,none⟩ (.slice A k c)).setCell ⟨g,2,none⟩ (.bool false)).setCell ⟨g,3,none⟩ (.slice A' k' c')):=by
 obtain ⟨h1,h2⟩:=store4_far (g:=g) (.bool (decide (q.num<0))) (.slice A k c) (.bool false) (.slice A' k' c') hW (hF.mono hb);obtain ⟨h3,h4⟩:=store4_far (g:=g) (.bool (decide (q.num<0))) (.slice A k c) (.bool false) (.slice A' k' c') hW' (hF'.mono hb);exact ⟨A,k,c,A',k',c',rfl,hk,hk',h1,h3,h2.mono hg,h4.mono hg,below_set4 (hBW.trans (hr.1.mono hg)) hg _ _ _ _⟩
theorem mk_num (n:Int) (d:Nat) (hd:d≠0):(mkRat n d).num=n.tdiv ((Nat.gcd n.natAbs d:Nat):Int):=by
 rw [Rat.num_mkRat,if_neg hd,Nat.gcd_comm];refine (Int.tdiv_eq_ediv_of_dvd ?_).symm;exact Int.ofNat_dvd_left.2 (Nat.gcd_dvd_left _ _)
theorem mk_den (n:Int) (d:Nat) (hd:d≠0):(mkRat n d).den=d / Nat.gcd n.natAbs d:=by
 rw [Rat.den_mkRat,if_neg hd,Nat.gcd_comm]
theorem natAbs_tmod (a b:Int):(a.tmod b).natAbs=a.natAbs % b.natAbs:=Int.natAbs_tmod a b
def Fit63 (a:Int):Prop:=-9223372036854775807≤a∧a≤9223372036854775807
def RatI (n d a b:Int):Prop:=Nat.gcd a.natAbs b.natAbs=Nat.gcd n.natAbs d.natAbs∧Fit63 a∧Fit63 b
theorem RatI.step {n d a b:Int} (h:RatI n d a b) (hb:b≠0):RatI n d b (a.tmod b)∧(a.tmod b).natAbs<b.natAbs∧Fit63 (a.tmod b):=by
 have h1:=Int.natAbs_tmod a b;have h2:a.natAbs % b.natAbs<b.natAbs:=Nat.mod_lt _ (by omega);have h3:Fit63 (a.tmod b):=by
  obtain ⟨_,_,hb1,hb2⟩:=h;unfold Fit63;omega
 refine ⟨⟨?_,h.2.2,h3⟩,by omega,h3⟩;rw [h1,← h.1,Nat.gcd_comm b.natAbs,← Nat.gcd_rec,Nat.gcd_comm]
theorem wrap_fit (x:Int) (h:Fit63 x):IntKind.i64.wrap x=x∧wrap64 x=x:=by
 obtain ⟨h1,h2⟩:=h;exact ⟨by rw [IntKind.wrap_i64];omega,by unfold wrap64;omega⟩
theorem tdiv_fit (n:Int) (G:Nat) (h:Fit63 n):Fit63 (n.tdiv (G:Int)):=by
 have h1:(n.tdiv (G:Int)).natAbs=n.natAbs / G:=by rw [Int.natAbs_tdiv];rfl
 have h2:n.natAbs / G≤n.natAbs:=Nat.div_le_self _ _;generalize n.tdiv (G:Int)=x at *;generalize n.natAbs / G=y at *;obtain ⟨h3,h4⟩:=h;unfold Fit63;omega
theorem div_fit (D G:Nat) (h:(D:Int)≤9223372036854775807):Fit63 ((D / G:Nat):Int):=by
 have h2:D / G≤D:=Nat.div_le_self _ _;generalize D / G=y at *;unfold Fit63;omega
theorem ratio_any (n d:Int) (w:World) (hn:Fit63 n) (hd0:0<d) (hd:d≤9223372036854775807) :
  Calls Tryz.prog 91 #[.int .i64 n,.int .i64 d] w (RetQ w (mkRat n d.toNat)):=by
 obtain ⟨D,rfl⟩:∃ D:Nat,d=(D:Int):=⟨d.toNat,by omega⟩;have hst:RatI n D n D:=⟨rfl,hn,by unfold Fit63;omega⟩;rw [Int.toNat_natCast];have en:=mk_num n D (by omega);have ed:=mk_den n D (by omega);generalize mkRat n D=q at *;have EN:=Hj en;have ED:=Hj ed;clear en ed;have HST:=Hj hst;have HN:=Hj hn;have HD:=Hj hd;clear hst hn hd;go_enter Tryz.func91,Tryz.ntmps91
 go_wp2_with fail
 obtain ⟨hB0,hBW,hsz⟩:=pre1 w 42 #[.bool false,.slice none 0 0,.bool false,.slice none 0 0];generalize w.alloc (.cells #[.bool false,.slice none 0 0,.bool false,.slice none 0 0] 42)=W at *;have HSZ:=Hj hsz;clear hsz
 go_loopw [5,6] (fun t5 t6 wr=>∃ (a b:Int) (k:Nat),t5=.int .i64 a∧t6=.int .i64 b∧Hid (RatI n D a b)∧wr=W.drewN k) (fun _ t6 _=>(intOf t6).natAbs)
 case atStart=>exact ⟨n,D,0,rfl,rfl,HST.out,rfl⟩
 case round =>
  obtain ⟨a,b,k,rfl,rfl,hab,rfl⟩:=hrel;by_cases hb0:b=0
  ·subst hb0;obtain ⟨hg,ha,-⟩:=hab.out;rw [show Int.natAbs 0=0 from rfl,Nat.gcd_zero_right] at hg;rw [Int.natAbs_natCast] at hg;have hD:D≠0:=by omega
   have hGp:0<Nat.gcd n.natAbs D:=Nat.gcd_pos_of_pos_right _ (by omega);have hGd:Nat.gcd n.natAbs D ∣ D:=Nat.gcd_dvd_right _ _;have hGle:Nat.gcd n.natAbs D≤D:=Nat.le_of_dvd (by omega) hGd;have en:=EN.out;have ed:=ED.out;clear EN ED;generalize hGe:Nat.gcd n.natAbs D=G at *;have hxb:Fit63 q.num:=by rw [en];exact tdiv_fit n G HN.out
   have hyb:Fit63 ((q.den:Nat):Int):=by rw [ed];exact div_fit D G HD.out
   have et:(D:Int).tdiv (G:Int)=(q.den:Int):=by rw [ed];exact (Int.ofNat_tdiv D G).symm
   have q3:(D:Int) / (G:Int)=(q.den:Int):=by rw [ed];exact (Int.natCast_ediv D G).symm
   have q1:IntKind.i64.wrap (n.tdiv (G:Int))=q.num:=by rw [← en];exact (wrap_fit _ hxb).1
   have q1':wrap64 (n.tdiv (G:Int))=q.num:=by rw [← en];exact (wrap_fit _ hxb).2
   have q2:IntKind.i64.wrap ((D:Int).tdiv (G:Int))=(q.den:Int):=by rw [et];exact (wrap_fit _ hyb).1
   have q2':wrap64 ((D:Int).tdiv (G:Int))=(q.den:Int):=by rw [et];exact (wrap_fit _ hyb).2
   have q4:IntKind.i64.wrap ((q.den:Nat):Int)=(q.den:Int):=(wrap_fit _ hyb).1;have q4':wrap64 ((q.den:Nat):Int)=(q.den:Int):=(wrap_fit _ hyb).2;have hG0:((G:Int) == 0)=false:=by simp;omega
   have hGn:G≠0:=by omega
   have hGi:(G:Int)≠0:=by omega
   have EN:=Hj en;have ED:=Hj ed;have HXB:=Hj hxb;have HYB:=Hj hyb;have hGp':(0:Int)<(G:Int):=by omega
   have hsgn:(a<0∧-a=(G:Int))∨(¬ a<0∧a=(G:Int)):=by omega
   have hwa:=(wrap_fit (-a) (by obtain ⟨x,y⟩:=ha;unfold Fit63;omega)).1;have hwa':=(wrap_fit (-a) (by obtain ⟨x,y⟩:=ha;unfold Fit63;omega)).2;have HGL:=Hj hGle;have HGD:=Hj hGd;have HHD:=Hj hD;clear en ed hxb hyb et hab HST hg ha hGd hGle hD hGe hd0;have hB0:=hB0.drewN k;have hBW:=below_drewN hBW k;have HSZ2:Hid ((W.drewN k).heap.size=w.heap.size+1):=HSZ.out;clear HSZ;have HSZ:=HSZ2;clear HSZ2;generalize W.drewN k=W1 at *;by_cases hGD:G=D
   ·have h1:q.den=1:=by rw [ED.out,hGD];exact Nat.div_self (by have:=HHD.out;omega)
    have hEq:((G:Int) == (D:Int))=true:=by simp [hGD]
    have H1:=Hj h1;have HGG:=Hj hGD;clear h1 hGD;rcases hsgn with ⟨hs,ha⟩|⟨hs,ha⟩
    all_goals
     (try rw [ha] at hwa hwa')
     (try subst ha)
     go_wp2_with fail
     refine (fromInt64_any q.num _ (by have:=HXB.out.1;omega) (by have:=HXB.out.2;omega)).mono ?_;rintro e w3 ⟨A3,k3,c3,rfl,hk3,hW3,hF3,hb3⟩;have hr3:=(RS4.start hB0).call hb3;obtain ⟨_,_,_,_,c0,c1,c2,c4,f0,f1,f2,f3⟩:=hr3.four;have hk4:0≤0:=Nat.le_refl 0;have hW4:Wat w3 none 0 (denW q.den):=by rw [H1.out];exact Wat.nil
     have hF4:Fresh W1.heap.size w3 none 0:=Fresh.nil;have hfin:=retQ_close (c':=0) hBW (Nat.le_refl _) (by have:=HSZ.out;omega) hr3 hk3 hk4 hW3 hW4 hF3 hF4;obtain ⟨d0,d1,d2,d3,-,-,-,-⟩:=(hr3.done (.bool (decide (q.num<0))) (.slice A3 k3 c3) (.bool false) (.slice none 0 0)).four;have HF:=Hj hfin;clear hfin hB0 hr3 hW3 hF3 hW4 hF4 hb3;go_wp2;refine bodyPost_ret (v:=.agg #[.bool (decide (q.num<0)),.slice A3 k3 c3,.bool false,.slice none 0 0]) ?_ rfl HF.out;simp [results,Tryz.results91,go_sem,d0,d1,d2,d3]
   ·have h1:q.den≠1:=by
     intro hh;rw [ED.out] at hh;obtain ⟨m,hm⟩:=HGD.out;rw [hm,Nat.mul_div_cancel_left _ (by omega)] at hh;rw [hh,Nat.mul_one] at hm;exact hGD hm.symm
    have hEq:((G:Int) == (D:Int))=false:=by simp;omega
    have hdw:denW q.den=digs q.den:=by unfold denW;rw [if_neg h1]
    have H1:=Hj hdw;clear h1 hGD hdw;have s4:=RS4.start hB0;rcases hsgn with ⟨hs,ha⟩|⟨hs,ha⟩
    all_goals
     (try rw [ha] at hwa hwa')
     (try subst ha)
     go_wp2_with fail
     have hS:∀ w',RS4 (w.heap.size) 42 W1 w'→(True)∧RS4 (w.heap.size) 42 W1 w':=fun w' hk=>⟨⟨⟩,hk⟩;have HS:=Hj hS;clear hS;clear hB0
     go_region_held3 (fun w'=>(True)∧RS4 (w.heap.size) 42 W1 w')
      (with_reducible first|(refine HS.out _ ?_;assumption)|(refine HS.out _ (RS4.drew ?_);assumption)|(refine' HS.out _ (RS4.drew (And.right ?_));rotate_left;assumption)|(refine' HS.out _ (RS4.set (And.right ?_) _ _ _ _);rotate_left;assumption))
      (first
       | (go_at_call_of 88 (Value.int .i64 q.num);have hk:=And.right ‹_∧RS4 (w.heap.size) 42 W1 _›;refine (fromInt64_any q.num _ (by have:=HXB.out.1;omega) (by have:=HXB.out.2;omega)).mono ?_;rintro e w3 ⟨A3,k3,c3,rfl,hk3,hW3,hF3,hb3⟩;have hz3:=hk.1.size;have hr3:=hk.call hb3)
       | (go_at_call_of 88 (Value.int .i64 (q.den:Int));have hk:=And.right ‹_∧RS4 (w.heap.size) 42 W1 _›;refine (fromInt64_any (q.den:Int) _ (by have:=HYB.out.1;omega) (by have:=HYB.out.2;omega)).mono ?_;rintro e w4 ⟨A4,k4,c4,rfl,hk4,hW4,hF4,hb4⟩;have hz4:=hk.1.size;have hr4:=hk.call hb4;obtain ⟨_,_,_,_,c0,c1,c2,c5,f0,f1,f2,f3⟩:=hr4.four))
     have hsn:decide ((q.den:Int)<0)=false:=by simp
     rw [Int.natAbs_natCast,← H1.out] at hW4;rw [hsn];have hF3:=hF3.keep hW3 hb4;have hW3:=hW3.below hb4;have hfin:=retQ_close hBW (Nat.le_refl _) (by have:=HSZ.out;show _<W1.heap.size;omega) hr4 hk3 hk4 hW3 hW4 hF3 (hF4.mono hz4);obtain ⟨d0,d1,d2,d3,-,-,-,-⟩:=(hr4.done (.bool (decide (q.num<0))) (.slice A3 k3 c3) (.bool false) (.slice A4 k4 c4)).four;have HF:=Hj hfin;clear hfin hr3 hr4 hW3 hF3 hW4 hF4 hb3 hb4 c0 c1 c2 c5 f0 f1 f2 f3;go_wp2;refine bodyPost_ret (v:=.agg #[.bool (decide (q.num<0)),.slice A3 k3 c3,.bool false,.slice A4 k4 c4]) ?_ rfl HF.out;simp [results,Tryz.results91,go_sem,d0,d1,d2,d3]
  ·obtain ⟨h1,h2,h3⟩:=hab.out.step hb0;have hbz:(b != 0)=true:=by simpa using hb0
   have hbz':(b == 0)=false:=by simpa using hb0
   have H1:=Hj h1;have H2:=Hj h2;have hw:IntKind.i64.wrap (a.tmod b)=a.tmod b:=by rw [IntKind.wrap_i64];obtain ⟨x,y⟩:=h3;omega
   have hw':wrap64 (a.tmod b)=a.tmod b:=by unfold wrap64;obtain ⟨x,y⟩:=h3;omega
   clear hab h1 h2 h3
   go_wp2_with fail
   go_quiet (fail)
   go_wp2;exact ⟨⟨b,_,_,rfl,rfl,H1.out,World.drewN_drewN _ _ _⟩,H2.out⟩
end Go.Proofs.YtjajigkacccdgaaGreat
