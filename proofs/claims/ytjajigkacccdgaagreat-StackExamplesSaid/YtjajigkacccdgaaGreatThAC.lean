/-
Lemmas of the walk; no further conditions.
-/
import Derived.Test.YtjajigkacccdgaaGreatThAB
set_option linter.unusedVariables false
set_option linter.unusedSimpArgs false
set_option maxRecDepth 100000
set_option maxHeartbeats 16000000
namespace Go.Proofs.YtjajigkacccdgaaGreat
open Go.RowKit
open Wd
theorem sg_mul (a b:Bool) (m n:Nat):sg (a != b) (m*n)=sg a m*sg b n:=by
 unfold sg;cases a<;>cases b<;>simp [Int.mul_neg,Int.neg_mul]
theorem len_one {m:Nat} (h:(digs m).length≤1):m<4294967296:=by
 have:=digs_len_le.1 h;simpa using this
theorem small_int (neg:Bool) (z:Int) (w:World) (h0:0≤z) (hn:z<18446744073709551616) :
  Calls Tryz.prog 135 #[.bool neg,.int .u64 z] w (RetZ w (sg neg z.toNat)):=by
 obtain ⟨n,rfl⟩:=Int.eq_ofNat_of_zero_le h0;exact small_any neg n w (by omega)
theorem low_bel (A:Option Addr) (n c:Nat) (l:List Nat) (w:World) (h:Wat w A n l) (hn:n≤2) :
  Calls Tryz.prog 143 #[.slice A n c] w fun e w'=>e=.returned (.int .u64 (val l:Nat))∧Below w.heap.size w w' :=
 (low_any A n c l w h hn).mono fun _ _ ⟨he,k,hk⟩=>⟨he,by rw [hk];exact belowN _ _⟩
theorem mul_any (neg neg':Bool) (A A':Option Addr) (n n' c c':Nat) (l l':List Nat) (w:World) (h:Wat w A n l) (h':Wat w A' n' l') (hnc:n≤c) (hnc':n'≤c') (hm:n≤100000000000) (hm':n'≤100000000000) :
  Calls Tryz.prog 97 #[.agg #[.bool neg,.slice A n c],.agg #[.bool neg',.slice A' n' c']] w (RetZ w (sg neg (val l)*sg neg' (val l'))):=by
 rw [← sg_mul];go_enter Tryz.func97,Tryz.ntmps97
 go_wp2_with fail
 obtain ⟨hB0,hB1,hB2,hBW,hsz⟩:=pre3 w 40 #[.bool neg,.slice A n c] 40 #[.bool neg',.slice A' n' c'] 40 #[.bool false,.slice none 0 0];generalize ((w.alloc (.cells #[.bool neg,.slice A n c] 40)).alloc (.cells #[.bool neg',.slice A' n' c'] 40)).alloc (.cells #[.bool false,.slice none 0 0] 40)=W at *;have HSZ:=Hj hsz;clear hsz;have s4:=RS.start hB2;have hw:∀ w',RS (w.heap.size+1+1) 40 W w'→Wat w' A n l∧Wat w' A' n' l':=fun w' hk=>⟨h.below (hBW.trans (hk.1.mono (by omega))),h'.below (hBW.trans (hk.1.mono (by omega)))⟩;have HW:=Hj hw;have hle:=h.trim_le;have hle':=h'.trim_le;clear hw;have T1:=Hj (fun W1 (hb:RS (w.heap.size+1+1) 40 W W1)=>trim_any A n c l W1 (HW.out _ hb).1 hnc (by omega));have T2:=Hj (fun W1 (hb:RS (w.heap.size+1+1) 40 W W1)=>trim_any A' n' c' l' W1 (HW.out _ hb).2 hnc' (by omega));obtain ⟨c0,c1,-,-⟩:=hB0.two;obtain ⟨c2,c3,-,-⟩:=hB1.two
 go_quiet ((first|(go_at_call_of 141 (Value.slice A n c);exact quiet_left (T1.out _ (s4.drewN _)))|(go_at_call_of 141 (Value.slice A' n' c');exact quiet_left (T2.out _ (s4.drewN _)))))
 have s5:=s4.drewN nq;clear T1 T2 s4 c0 c1 c2 c3;have hT:=fun W1 (hb:RS (w.heap.size+1+1) 40 W W1)=>(HW.out _ hb).1.trim;have hT':=fun W1 (hb:RS (w.heap.size+1+1) 40 W W1)=>(HW.out _ hb).2.trim;have HT:=Hj hT;have HT':=Hj hT';have hv1:=@len_one (val l);have hv2:=@len_one (val l');clear hT hT' HW;have hvd:=val_digs (val l);have hvd':=val_digs (val l');have HVD:=Hj hvd;have HVD':=Hj hvd';clear hvd hvd';generalize val l=m at *;generalize val l'=m' at *;by_cases hb:(digs m).length≤1∧(digs m').length≤1
 ·obtain ⟨hb1,hb2⟩:=hb;have hv1:=hv1 hb1;have hv2:=hv2 hb2;generalize digs m=D at *;generalize digs m'=D' at *;generalize D.length=k at *;generalize D'.length=k' at *;have hp:m*m'<18446744073709551616:=by
   have:m*m'≤4294967295*4294967295:=Nat.mul_le_mul (by omega) (by omega);omega
  have hmm:(m:Int)*(m':Int)=((m*m':Nat):Int):=by omega
  have hw1:IntKind.u64.wrap ((m:Int)*(m':Int))=(m:Int)*(m':Int):=by
   rw [IntKind.wrap_u64,hmm];omega
  have HMM:=Hj hmm;have HP:=Hj hp;clear hmm hp hv1 hv2
  go_wp2_with fail
  have hS:∀ w',RS (w.heap.size+1+1) 40 W w'→(w'.cell? ⟨w.heap.size,0,none⟩=some (.bool neg)∧w'.cell? ⟨w.heap.size,1,none⟩=some (.slice A n c)∧w'.cell? ⟨w.heap.size+1,0,none⟩=some (.bool neg')∧w'.cell? ⟨w.heap.size+1,1,none⟩=some (.slice A' n' c'))∧RS (w.heap.size+1+1) 40 W w':=fun w' hk=>⟨⟨(hk.blk hB0 (by omega)).cell 0,(hk.blk hB0 (by omega)).cell 1,(hk.blk hB1 (by omega)).cell 0,(hk.blk hB1 (by omega)).cell 1⟩,hk⟩;have HS:=Hj hS;clear hS;clear hB2
  go_region_held3 (fun w'=>(w'.cell? ⟨w.heap.size,0,none⟩=some (.bool neg)∧w'.cell? ⟨w.heap.size,1,none⟩=some (.slice A n c)∧w'.cell? ⟨w.heap.size+1,0,none⟩=some (.bool neg')∧w'.cell? ⟨w.heap.size+1,1,none⟩=some (.slice A' n' c'))∧RS (w.heap.size+1+1) 40 W w')
   (with_reducible first|(refine HS.out _ ?_;assumption)|(refine HS.out _ (RS.drew ?_);assumption)|(refine' HS.out _ (RS.drew (And.right ?_));rotate_left;assumption)|(refine' HS.out _ (RS.set (And.right ?_) _ _);rotate_left;assumption))
   (first
    | (go_at_call_of 143 (Value.slice A k c);have hk:=And.right ‹_∧RS (w.heap.size+1+1) 40 W _›;refine (low_bel A _ c _ _ (HT.out _ hk) (by omega)).mono ?_;rw [HVD.out];rintro e w1 ⟨rfl,hb1⟩;have hr1:=hk.call hb1)
    | (go_at_call_of 143 (Value.slice A' k' c');have hk:=And.right ‹_∧RS (w.heap.size+1+1) 40 W _›;refine (low_bel A' _ c' _ _ (HT'.out _ hk) (by omega)).mono ?_;rw [HVD'.out];rintro e w2 ⟨rfl,hb2⟩;have hr2:=hk.call hb2)
    | (go_at_call 135;have hk:=And.right ‹_∧RS (w.heap.size+1+1) 40 W _›;refine (small_int (neg != neg') _ _ (by rw [HMM.out];omega) (by rw [HMM.out];have:=HP.out;omega)).mono ?_;rw [HMM.out,Int.toNat_natCast];rintro e w3 ⟨A3,k3,c3,rfl,hk3,hW3,hF3,hb3⟩;have hz3:=hk.1.size;have hr3:=hk.call hb3;obtain ⟨_,_,c0,c1,f0,f1⟩:=hr3.two))
  have hfin:=retZ_close hBW (by omega) (by have:=HSZ.out;omega) hr3 hk3 hW3 hF3;obtain ⟨d0,d1,-,-⟩:=(hr3.done (.bool (decide (sg (neg != neg') (m*m')<0))) (.slice A3 k3 c3)).two;have HF:=Hj hfin;clear hfin;go_wp2;refine bodyPost_ret (v:=.agg #[.bool (decide (sg (neg != neg') (m*m')<0)),.slice A3 k3 c3]) ?_ rfl HF.out;simp [results,Tryz.results97,go_sem,d0,d1]
 ·have hb':¬ ((digs m).length≤1)∨((digs m).length≤1∧¬ ((digs m').length≤1)):=by omega
  clear hb hv1 hv2;have hmu:=fun W1 (hb:RS (w.heap.size+1+1) 40 W W1)=>mulWords_any A A' _ _ c c' _ _ W1 (HT.out _ hb) (HT'.out _ hb) (by omega) (by omega);rw [HVD.out,HVD'.out] at hmu;have HMU:=Hj hmu;clear hmu;generalize digs m=D at *;generalize digs m'=D' at *;generalize D.length=k at *;generalize D'.length=k' at *;rcases hb' with hb1|⟨hb1,hb2⟩
  all_goals
   go_wp2_with fail
   have hS:∀ w',RS (w.heap.size+1+1) 40 W w'→(w'.cell? ⟨w.heap.size,0,none⟩=some (.bool neg)∧w'.cell? ⟨w.heap.size,1,none⟩=some (.slice A n c)∧w'.cell? ⟨w.heap.size+1,0,none⟩=some (.bool neg')∧w'.cell? ⟨w.heap.size+1,1,none⟩=some (.slice A' n' c'))∧RS (w.heap.size+1+1) 40 W w':=fun w' hk=>⟨⟨(hk.blk hB0 (by omega)).cell 0,(hk.blk hB0 (by omega)).cell 1,(hk.blk hB1 (by omega)).cell 0,(hk.blk hB1 (by omega)).cell 1⟩,hk⟩;have HS:=Hj hS;clear hS;clear hB2
   go_region_held3 (fun w'=>(w'.cell? ⟨w.heap.size,0,none⟩=some (.bool neg)∧w'.cell? ⟨w.heap.size,1,none⟩=some (.slice A n c)∧w'.cell? ⟨w.heap.size+1,0,none⟩=some (.bool neg')∧w'.cell? ⟨w.heap.size+1,1,none⟩=some (.slice A' n' c'))∧RS (w.heap.size+1+1) 40 W w')
    (with_reducible first|(refine HS.out _ ?_;assumption)|(refine HS.out _ (RS.drew ?_);assumption)|(refine' HS.out _ (RS.drew (And.right ?_));rotate_left;assumption)|(refine' HS.out _ (RS.set (And.right ?_) _ _);rotate_left;assumption))
    (first
     | (go_at_call 145;have hk:=And.right ‹_∧RS (w.heap.size+1+1) 40 W _›;refine (HMU.out _ hk).mono ?_;rintro e w1 ⟨p1,⟨A1,c1,rfl,hk1,hcm1,hW1,hF1,hb1⟩,hp1⟩;have hz1:=hk.1.size;have hr1:=hk.call hb1;have HP:=Hj hp1;clear hp1)
     | (go_at_call 144;have hk:=And.right ‹_∧RS (w.heap.size+1+1) 40 W _›;refine (build_any (neg != neg') A1 _ c1 _ _ hW1 hk1 (by omega)).mono ?_;intro e w2 hr;have hr:=RetZ.of_in hb1 hW1 hF1 hk1 hr;rw [HP.out] at hr;obtain ⟨A2,k2,c2,rfl,hk2,hW2,hF2,hb2⟩:=hr;have hr2:=RS.call ‹RS _ _ W (World.drew _)› hb2;obtain ⟨_,_,c0,c1,f0,f1⟩:=hr2.two))
   have hfin:=retZ_close hBW (by omega) (by have:=HSZ.out;omega) hr2 hk2 hW2 hF2;obtain ⟨d0,d1,-,-⟩:=(hr2.done (.bool (decide (sg (neg != neg') (m*m')<0))) (.slice A2 k2 c2)).two;have HF:=Hj hfin;clear hfin hr;go_wp2;refine bodyPost_ret (v:=.agg #[.bool (decide (sg (neg != neg') (m*m')<0)),.slice A2 k2 c2]) ?_ rfl HF.out;simp [results,Tryz.results97,go_sem,d0,d1]
def RetDiv (w:World) (x y:Nat) (e:Ending) (w':World):Prop :=
 ∃ A1 n1 c1 q A2 n2 c2 r,e=.returned (.tuple #[.slice A1 n1 c1,.slice A2 n2 c2])∧n1≤c1∧n2≤c2∧n1≤100000000000∧n2≤100000000000∧Wat w' A1 n1 q∧Wat w' A2 n2 r ∧
  Fresh w.heap.size w' A1 n1∧Fresh w.heap.size w' A2 n2∧val q=x / y∧val r=x % y∧Below w.heap.size w w'
def DivW (M:Nat):Prop:=∀ (A A':Option Addr) (n n' c c' x y:Nat) (w:World),Wat w A n (digs x)→Wat w A' n' (digs y)→x<M→y≠0→n≤10000000000→n'≤10000000000 →
 Calls Tryz.prog 200 #[.slice A n c,.slice A' n' c'] w (RetDiv w x y)
theorem compareWords_bel (A A':Option Addr) (n n' c c':Nat) (x y:Nat) (w:World) (h:Wat w A n (digs x)) (h':Wat w A' n' (digs y)) (hm:n≤9223372036854775807) (hm':n'≤9223372036854775807) :
  Calls Tryz.prog 142 #[.slice A n c,.slice A' n' c'] w fun e w'=>e=.returned (.int .i64 (cmpI x y))∧Below w.heap.size w w' :=
 (compareWords_any A A' n n' c c' x y w h h' hm hm').mono fun _ _ ⟨he,k,hk⟩=>⟨he,by rw [hk];exact belowN _ _⟩
theorem field_zw (a b:Value) (w:World):(Instr.field 40 (.agg #[a,b]) 1).run Tryz.prog w=.ok b w:=by kernel_rfl
theorem divWords_less (A A':Option Addr) (n n' c c' x y:Nat) (w:World) (h:Wat w A n (digs x)) (h':Wat w A' n' (digs y)) (hxy:x<y) (hn:n≤10000000000) (hn':n'≤10000000000) :
  Calls Tryz.prog 200 #[.slice A n c,.slice A' n' c'] w (RetDiv w x y):=by
 have hc:cmpI x y = -1:=cmpI_lt (by omega);have T:=compareWords_bel A A' n n' c c' x y w h h' (by omega) (by omega);rw [hc] at T;have T:=Hj T;have hq:x / y=0:=Nat.div_eq_of_lt hxy;have hr:x % y=x:=Nat.mod_eq_of_lt hxy;have HQ:=Hj hq;have HR:=Hj hr;clear hc hq hr hxy;go_enter Tryz.func200,Tryz.ntmps200
 go_wp2_with fail
 refine (T.out).mono ?_;rintro e w1 ⟨rfl,hb1⟩
 go_wp2_with fail
 refine (clone_any A n c (digs x) w1 (h.below hb1) (by omega)).mono ?_;rintro e w2 ⟨A2,c2,rfl,hk2,hcm2,hW2,hF2,hb2⟩;go_wp2;go_ret2;exact ⟨none,0,0,[],A2,n,c2,digs x,rfl,Nat.le_refl _,hk2,by omega,by omega,Wat.nil,hW2,Fresh.nil,hF2.mono hb1.size,by rw [HQ.out];rfl,by rw [HR.out,val_digs],hb1.trans (hb2.mono hb1.size)⟩
theorem divWords_two (A A':Option Addr) (n n' c c' x y:Nat) (w:World) (h:Wat w A n (digs x)) (h':Wat w A' n' (digs y)) (hxy:y≤x) (hx:x<18446744073709551616) (hy:y≠0) (hn:n≤10000000000) (hn':n'≤10000000000) :
  Calls Tryz.prog 200 #[.slice A n c,.slice A' n' c'] w (RetDiv w x y):=by
 have hc:0≤cmpI x y:=by
  rcases Nat.lt_or_ge y x with h1|h1
  ·rw [cmpI_gt (by omega)];decide
  ·rw [cmpI_eq (by omega)];decide
 have T:=compareWords_bel A A' n n' c c' x y w h h' (by omega) (by omega);generalize cmpI x y=cc at *;have T:=Hj T;have hl2:n≤2:=by rw [← h.1];exact len_le_two hx
 have hl2':n'≤2:=by rw [← h'.1];exact len_le_two (by omega)
 have hq:IntKind.u64.wrap ((x:Int).tdiv (y:Int))=((x / y:Nat):Int):=by
  rw [IntWalk.u64_quo _ _ ⟨by omega,by omega,by omega⟩];omega
 have hr:(x:Int).tmod (y:Int)=((x % y:Nat):Int):=by rw [IntWalk.rem_in _ _ (by omega)];omega
 have hq':IntKind.u64.wrap ((x:Int) / (y:Int))=((x / y:Nat):Int):=by
  have e:(x:Int) / (y:Int)=((x / y:Nat):Int):=by omega
  have:=Nat.lt_of_le_of_lt (Nat.div_le_self x y) hx;rw [e,IntKind.wrap_u64];generalize x / y=q at *;clear hq;omega
 have hr':(x:Int) % (y:Int)=((x % y:Nat):Int):=by omega
 have hy0:((y:Int) == 0)=false:=by simp;exact hy
 have hqb:x / y<18446744073709551616:=Nat.lt_of_le_of_lt (Nat.div_le_self _ _) hx;have hrb:x % y<18446744073709551616:=Nat.lt_of_le_of_lt (Nat.mod_le _ _) hx;have HQB:=Hj hqb;have HRB:=Hj hrb;have HV1:=Hj (val_digs x);have HV2:=Hj (val_digs y);clear hqb hrb hxy hx;have hfld:=field_zw;generalize hqe:x / y=q at *;generalize hre:x % y=r at *;have HQE:=Hj hqe;have HRE:=Hj hre;clear hqe hre;go_enter Tryz.func200,Tryz.ntmps200
 go_wp2_with fail
 refine (T.out).mono ?_;rintro e w1 ⟨rfl,hb1⟩
 go_wp2_with fail
 refine (low_bel A n c _ w1 (h.below hb1) hl2).mono ?_;rw [HV1.out];rintro e w2 ⟨rfl,hb2⟩
 go_wp2_with fail
 have hb12:=hb1.trans (hb2.mono hb1.size);refine (low_bel A' n' c' _ w2 (h'.below hb12) hl2').mono ?_;rw [HV2.out];rintro e W ⟨rfl,hb3⟩;have hbW:Below w.heap.size w W:=hb12.trans (hb3.mono hb12.size);clear hb1 hb2 hb12 hb3 T
 go_wp2_with fail
 have s4:=Kp.refl W;have hS:∀ w',Kp W w'→(True)∧Kp W w':=fun w' hk=>⟨⟨⟩,hk⟩;have HS:=Hj hS;clear hS
 go_region_held3 (fun w'=>(True)∧Kp W w')
  (with_reducible first|(refine HS.out _ ?_;assumption)|(refine HS.out _ (Kp.drew ?_);assumption)|(refine' HS.out _ (Kp.drew (And.right ?_));rotate_left;assumption))
  (first
   | (go_at_call_of 135 (Value.int .u64 (q:Int));have hk:=And.right ‹_∧Kp W _›;refine (small_any false q _ HQB.out).mono ?_;rintro e w3 ⟨A3,k3,c3,rfl,hk3,hW3,hF3,hb3⟩;have hz3:=Below.size hk;have hr3:=hk.trans hb3)
   | (go_at_call_of 135 (Value.int .u64 (r:Int));have hk:=And.right ‹_∧Kp W _›;refine (small_any false r _ HRB.out).mono ?_;rintro e w4 ⟨A4,k4,c4,rfl,hk4,hW4,hF4,hb4⟩;have hz4:=Below.size hk;have hr4:=hk.trans hb4))
 have h3:=hW3.1;have h4:=hW4.1;rw [sg_natAbs] at hW3 hW4 h3 h4;have b3:k3≤2:=by rw [← h3];exact len_le_two HQB.out
 have b4:k4≤2:=by rw [← h4];exact len_le_two HRB.out
 have hz5:=HS;have hfin:RetDiv w x y (.returned (.tuple #[.slice A3 k3 c3,.slice A4 k4 c4])) w4 :=
  ⟨A3,k3,c3,_,A4,k4,c4,_,rfl,hk3,hk4,by omega,by omega,hW3.below hb4,hW4,(hF3.keep hW3 hb4).mono hbW.size,hF4.mono (Nat.le_trans hbW.size hz4),by rw [val_digs,HQE.out],by rw [val_digs,HRE.out],hbW.trans (Below.mono hr4 hbW.size)⟩
 have HF:=Hj hfin;clear hfin h3 h4 hz5;go_wp2;go_ret2;exact HF.out
theorem divW_small:DivW 18446744073709551616:=by
 intro A A' n n' c c' x y w h h' hx hy hn hn';rcases Nat.lt_or_ge x y with hlt|hge
 ·exact divWords_less A A' n n' c c' x y w h h' hlt hn hn'
 ·exact divWords_two A A' n n' c c' x y w h h' hge hx hy hn hn'
def readW (w:World):Value→Nat
 | .slice (some a) n _=>val ((List.range n).map fun j=>match w.cell? ⟨a.block,a.off+j,none⟩ with|some (.int _ z)=>z.toNat|_=>0)
 | _=>0
theorem Wat.read {w:World} {A:Option Addr} {n:Nat} {l:List Nat} (h:Wat w A n l) (c:Nat):readW w (.slice A n c)=val l:=by
 rcases Nat.eq_zero_or_pos n with h0|h0
 ·subst h0;obtain rfl:l=[]:=List.eq_nil_of_length_eq_zero h.1;cases A<;>rfl
 ·obtain ⟨b,o,rfl,hb,hc⟩:=h.2.2 (by omega);show val _=val l
  congr 1
  apply List.ext_getElem
  ·simp [h.1]
  ·intro j h1 h2;simp only [List.getElem_map,List.getElem_range];have hj:j<n:=by simpa using h1
   rw [hc j hj,List.getElem?_eq_getElem h2]
   rfl
def GcdL (w W:World) (M x y:Nat) (t5 t6:Value) (wr:World):Prop :=
 ∃ A n c X A' n' c' Y,t5=.slice A n c∧t6=.slice A' n' c'∧n≤c∧n'≤c'∧n≤10000000000∧n'≤10000000000∧Wat wr A n (digs X)∧Wat wr A' n' (digs Y)∧X<M∧Y<M∧Nat.gcd X Y=Nat.gcd x y∧RS (w.heap.size+1+1) 40 W wr
theorem gcd_any (M:Nat) (hM:∀ x,x<M→(digs x).length≤10000000000) (HD:DivW M) (neg neg':Bool) (A A':Option Addr) (n n' c c':Nat) (l l':List Nat) (w:World) (h:Wat w A n l) (h':Wat w A' n' l') (hnc:n≤c) (hnc':n'≤c') (hm:n≤10000000000) (hm':n'≤10000000000)
  (hx:val l<M) (hy:val l'<M) :
  Calls Tryz.prog 152 #[.agg #[.bool neg,.slice A n c],.agg #[.bool neg',.slice A' n' c']] w (RetZ w (Nat.gcd (val l) (val l'):Nat)):=by
 have HMM:=Hj hM;have HXM:=Hj hx;have HYM:=Hj hy;clear hM hx hy;go_enter Tryz.func152,Tryz.ntmps152
 go_wp2_with fail
 obtain ⟨hB0,hB1,hB2,hBW,hsz⟩:=pre3 w 40 #[.bool neg,.slice A n c] 40 #[.bool neg',.slice A' n' c'] 40 #[.bool false,.slice none 0 0];generalize ((w.alloc (.cells #[.bool neg,.slice A n c] 40)).alloc (.cells #[.bool neg',.slice A' n' c'] 40)).alloc (.cells #[.bool false,.slice none 0 0] 40)=W at *;have HSZ:=Hj hsz;clear hsz;have s4:=RS.start hB2;have hw:∀ w',RS (w.heap.size+1+1) 40 W w'→Wat w' A n l∧Wat w' A' n' l':=fun w' hk=>⟨h.below (hBW.trans (hk.1.mono (by omega))),h'.below (hBW.trans (hk.1.mono (by omega)))⟩;have HW:=Hj hw;have hle:=h.trim_le;have hle':=h'.trim_le;clear hw;have T1:=Hj (fun W1 (hb:RS (w.heap.size+1+1) 40 W W1)=>trim_any A n c l W1 (HW.out _ hb).1 hnc (by omega));have T2:=Hj (fun W1 (hb:RS (w.heap.size+1+1) 40 W W1)=>trim_any A' n' c' l' W1 (HW.out _ hb).2 hnc' (by omega));obtain ⟨c0,c1,-,-⟩:=hB0.two;obtain ⟨c2,c3,-,-⟩:=hB1.two
 go_quiet ((first|(go_at_call_of 141 (Value.slice A n c);exact quiet_left (T1.out _ (s4.drewN _)))|(go_at_call_of 141 (Value.slice A' n' c');exact quiet_left (T2.out _ (s4.drewN _)))))
 have s5:=s4.drewN nq;clear T1 T2 s4 c0 c1 c2 c3 hB0 hB1 hB2;have hst:GcdL w W M (val l) (val l') (.slice A (digs (val l)).length c) (.slice A' (digs (val l')).length c') (W.drewN nq) :=
  ⟨A,_,c,val l,A',_,c',val l',rfl,rfl,by omega,by omega,by omega,by omega,(HW.out _ s5).1.trim,(HW.out _ s5).2.trim,HXM.out,HYM.out,rfl,s5⟩
 clear s5 HXM HYM HW hle hle';generalize W.drewN nq=W1 at *
 go_wp2_with fail
 go_loopw [5,6] (fun t5 t6 wr=>GcdL w W M (val l) (val l') t5 t6 wr) (fun _ t6 wr=>readW wr t6)
 case atStart=>exact hst
 case round =>
  obtain ⟨B,m,d,X,B',m',d',Y,rfl,rfl,hmd,hmd',hm1,hm2,hWX,hWY,hXM,hYM,hg,hRS⟩:=hrel;have HXM:=Hj hXM;have HYM:=Hj hYM;have HG:=Hj hg;clear hst hXM hYM hg;by_cases hy0:Y=0
  ·subst hy0;have hm0:m'=0:=by have:=hWY.1;rw [digs_zero] at this;exact this.symm
   subst hm0;have hX:X=Nat.gcd (val l) (val l'):=by rw [← HG.out,Nat.gcd_zero_right]
   subst hX;clear HG HYM;generalize Nat.gcd (val l) (val l')=gg at *
   go_wp2_with fail
   refine (clone_any B m d (digs gg) wr hWX (by omega)).mono ?_;rintro e w2 ⟨A2,c2,rfl,hk2,hcm2,hW2,hF2,hb2⟩
   go_wp2_with fail
   refine (build_any false A2 m c2 (digs gg) w2 hW2 hk2 (by omega)).mono ?_;intro e w5 hr;have hr:=RetZ.of_in hb2 hW2 hF2 hk2 hr;rw [val_digs,show sg false gg=((gg:Nat):Int) from rfl] at hr;obtain ⟨A5,k5,c5,rfl,hk5,hW5,hF5,hb5⟩:=hr;have hz5:=hRS.1.size;have hr5:=hRS.call hb5;obtain ⟨_,_,c0,c1,f0,f1⟩:=hr5.two;have hfin:=retZ_close hBW (by omega) (by have:=HSZ.out;omega) hr5 hk5 hW5 hF5;obtain ⟨d0,d1,-,-⟩:=(hr5.done (.bool (decide (((gg:Nat):Int)<0))) (.slice A5 k5 c5)).two;have HF:=Hj hfin;clear hfin hr;go_wp2;refine bodyPost_ret (v:=.agg #[.bool (decide (((gg:Nat):Int)<0)),.slice A5 k5 c5]) ?_ rfl HF.out;simp [results,Tryz.results152,go_sem,d0,d1]
  ·have hm0:0<m':=by
    have:=hWY.1;rcases Nat.eq_zero_or_pos m' with h0|h0
    ·subst h0;exact absurd (digs_nil (List.eq_nil_of_length_eq_zero this)) hy0
    ·exact h0
   by_cases hbig:2<m∨2<m'
   ·have hb':2<m∨(¬ 2<m∧2<m'):=by omega
    clear hbig;rcases hb' with hb1|⟨hb1,hb2⟩
    all_goals
     go_wp2_with fail
     refine (HD B B' m m' d d' X Y wr hWX hWY HXM.out hy0 hm1 hm2).mono ?_;rintro e w2 ⟨A1,n1,c1,q,A2,n2,c2,r,rfl,hn1,hn2,hl1,hl2,hW1,hW2,hF1,hF2,hq,hr,hb⟩;have HR:=Hj hr;have HQ:=Hj hq;clear hr hq
     go_wp2_with fail
     refine (trim_any A2 n2 c2 r w2 hW2 hn2 (by omega)).mono ?_;rw [HR.out];rintro e w' ⟨rfl,rfl⟩;have hT:=hW2.trim;rw [HR.out] at hT;have hlt:X % Y<Y:=Nat.mod_lt _ (by omega);have hrel:GcdL w W M (val l) (val l') (.slice B' m' d') (.slice A2 (digs (X % Y)).length c2) w2 :=
      ⟨B',m',d',Y,A2,_,c2,X % Y,rfl,rfl,hmd',Nat.le_trans (by have:=hW2.trim_le;rwa [HR.out] at this) hn2,hm2,HMM.out _ (Nat.lt_trans hlt HYM.out),hWY.below hb,hT,HYM.out,Nat.lt_trans hlt HYM.out,by rw [← HG.out,Nat.gcd_comm Y,← Nat.gcd_rec,Nat.gcd_comm],hRS.call hb⟩
     have hms:readW w2 (.slice A2 (digs (X % Y)).length c2)<readW wr (.slice B' m' d'):=by
      rw [hT.read,hWY.read,val_digs,val_digs];exact hlt
     have HREL:=Hj hrel;have HMS:=Hj hms;clear hrel hms hT hlt;go_wp2;exact ⟨HREL.out,HMS.out⟩
   ·have hs1:m≤2:=by omega
    have hs2:m'≤2:=by omega
    clear hbig;have hX2:X<18446744073709551616:=by
     have:=digs_len_le.1 (Nat.le_of_eq hWX.1);have:=(@digs_len_le X 2).1 (by rw [hWX.1];exact hs1);rwa [pow2] at this
    have hY2:Y<18446744073709551616:=by
     have:=(@digs_len_le Y 2).1 (by rw [hWY.1];exact hs2);rwa [pow2] at this
    have HX2:=Hj hX2;have HY2:=Hj hY2;clear hX2 hY2
    go_wp2_with fail
    refine (low_bel B m d _ wr hWX hs1).mono ?_;rw [val_digs];rintro e w2 ⟨rfl,hb2⟩
    go_wp2_with fail
    refine (low_bel B' m' d' _ w2 (hWY.below hb2) hs2).mono ?_;rw [val_digs];rintro e w3 ⟨rfl,hb3⟩;have hRS3:=(hRS.call hb2).call hb3;clear hWX hWY hb2 hb3 hRS
    go_wp2_with fail
    go_loopw [9,10] (fun t9 t10 ws=>∃ a b k:Nat,t9=.int .u64 a∧t10=.int .u64 b∧Hid (Nat.gcd a b=Nat.gcd (val l) (val l')∧a<18446744073709551616∧b<18446744073709551616)∧ws=w3.drewN k) (fun _ t10 _=>(intOf t10).toNat)
    case atStart=>exact ⟨X,Y,0,rfl,rfl,⟨HG.out,HX2.out,HY2.out⟩,rfl⟩
    case round =>
     obtain ⟨a,b,k,rfl,rfl,hab,rfl⟩:=hrel;by_cases hb0:b=0
     ·subst hb0;have ha:a=Nat.gcd (val l) (val l'):=by rw [← hab.out.1,Nat.gcd_zero_right]
      have HA2:=Hj hab.out.2.1;subst ha;clear hab;generalize Nat.gcd (val l) (val l')=gg at *;have hRS4:=hRS3.drewN k
      go_wp2_with fail
      refine (small_any false gg _ HA2.out).mono ?_;have hsg:sg false gg=((gg:Nat):Int):=rfl;rw [hsg];rintro e w5 ⟨A5,k5,c5,rfl,hk5,hW5,hF5,hb5⟩;have hz5:=hRS4.1.size;have hr5:=hRS4.call hb5;obtain ⟨_,_,c0,c1,f0,f1⟩:=hr5.two;have HSG:=Hj hsg;clear hsg HA2 hRS3 hRS4 hb5;have hfin:=retZ_close hBW (by omega) (by have:=HSZ.out;omega) hr5 hk5 hW5 hF5;obtain ⟨d0,d1,-,-⟩:=(hr5.done (.bool (decide (((gg:Nat):Int)<0))) (.slice A5 k5 c5)).two;have HF:=Hj hfin;clear hfin;go_wp2;refine bodyPost_ret (v:=.agg #[.bool (decide (((gg:Nat):Int)<0)),.slice A5 k5 c5]) ?_ rfl HF.out;simp [results,Tryz.results152,go_sem,d0,d1]
     ·have hr1:(a:Int).tmod (b:Int)=((a % b:Nat):Int):=by rw [IntWalk.rem_in _ _ (by omega)];omega
      have hr2:(a:Int) % (b:Int)=((a % b:Nat):Int):=by omega
      have hbz:((b:Int) == 0)=false:=by simp;exact hb0
      have hlt:a % b<b:=Nat.mod_lt _ (by omega);have hnew:Hid (Nat.gcd b (a % b)=Nat.gcd (val l) (val l')∧b<18446744073709551616∧a % b<18446744073709551616) :=
       ⟨by rw [← hab.out.1,Nat.gcd_comm b,← Nat.gcd_rec,Nat.gcd_comm],hab.out.2.2,Nat.lt_trans hlt hab.out.2.2⟩
      have hbp:(0:Int)<(b:Int):=by omega
      clear hab;generalize a % b=rr at *
      go_wp2_with fail
      go_quiet (fail)
      go_wp2;exact ⟨⟨b,rr,_,rfl,rfl,hnew,World.drewN_drewN _ _ _⟩,by simp [intOf];omega⟩
end Go.Proofs.YtjajigkacccdgaaGreat
