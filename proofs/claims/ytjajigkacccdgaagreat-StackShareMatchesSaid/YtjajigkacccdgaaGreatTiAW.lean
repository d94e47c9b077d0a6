/-
Lemmas of the walk; no further conditions.
-/
import Derived.Test.YtjajigkacccdgaaGreatTiAV
set_option linter.unusedVariables false
set_option linter.unusedSimpArgs false
set_option maxRecDepth 100000
set_option maxHeartbeats 16000000
namespace Go.Proofs.YtjajigkacccdgaaGreat
open Go.RowKit
open Wd
theorem vh_list (v:Nat):∀ n,vh ((List.range n).map fun j=>((dg v j:Nat):Int))=v % 65536 ^ n
 | 0=>by simp [vh,Nat.mod_one]
 | n+1=>by
  rw [List.range_succ,List.map_append,List.map_cons,List.map_nil,vh_snoc,vh_list v n,mod_dg];simp
theorem Dg_of {hs:List Int} {v:Nat} (h:∀ j,j<hs.length→hs[j]?.getD 0=((dg v j:Nat):Int)):Dg hs:=fun j=>by
 by_cases hj:j<hs.length
 ·rw [h j hj];have:=dg_lt v j;omega
 ·rw [List.getElem?_eq_none (by omega)];simp
theorem vh_of {hs:List Int} {v:Nat} (h:∀ j,j<hs.length→hs[j]?.getD 0=((dg v j:Nat):Int)) (hv:v<65536 ^ hs.length):vh hs=v:=by
 have e:hs=(List.range hs.length).map fun j=>((dg v j:Nat):Int):=by
  apply List.ext_getElem (by simp);intro j h1 h2;have:=h j h1;rw [List.getElem?_eq_getElem h1] at this;simpa using this
 rw [e,vh_list,Nat.mod_eq_of_lt hv]
def QuoI (v n i:Nat) (hs:List Int):Prop:=hs.length=n∧∀ j,i≤j→j<n→hs[j]?.getD 0=((dg v j:Nat):Int)
theorem QuoI.start (v n:Nat):QuoI v n n (List.replicate n 0):=⟨by simp,fun j h1 h2=>by omega⟩
theorem QuoI.step {v n i:Nat} {hs:List Int} (h:QuoI v n (i+1) hs) (hi:i<n) {x:Nat} (hx:x=dg v i):QuoI v n i (hs.set i (x:Int)):=by
 refine ⟨by simp [h.1],fun j h1 h2=>?_⟩;rw [List.getElem?_set];by_cases hj:i=j
 ·subst hj;rw [if_pos rfl,if_pos (by rw [h.1];exact hi),hx];rfl
 ·rw [if_neg hj];exact h.2 j (by omega) h2
theorem QuoI.done {v n:Nat} {hs:List Int} (h:QuoI v n 0 hs) (hv:v<65536 ^ n):Dg hs∧vh hs=v:=by
 have e:∀ j,j<hs.length→hs[j]?.getD 0=((dg v j:Nat):Int):=fun j hj=>h.2 j (Nat.zero_le _) (by rw [← h.1];exact hj);exact ⟨Dg_of e,vh_of e (by rw [h.1];exact hv)⟩
def rst (a b i:Nat):Nat:=a / 65536 ^ i % b
theorem rst_step (a b i:Nat) (hb:0<b):(rst a b (i+1)*65536+dg a i) / b=dg (a / b) i∧(rst a b (i+1)*65536+dg a i) % b=rst a b i:=quo_step a b i hb
theorem rst_lt (a b i:Nat) (hb:0<b):rst a b i<b:=Nat.mod_lt _ hb
theorem rst_top {a b n:Nat} (ha:a<65536 ^ n):rst a b n=0:=by unfold rst;rw [Nat.div_eq_of_lt ha,Nat.zero_mod]
theorem rst_zero (a b:Nat):rst a b 0=a % b:=by unfold rst;rw [Nat.pow_zero,Nat.div_one]
theorem seek_done {lo hi b r:Nat} (hb:0<b) (h1:lo*b≤r) (h2:r<hi*b) (h3:hi≤lo+1):lo=r / b∧r-b*lo=r % b:=by
 have e:r<(lo+1)*b:=Nat.lt_of_lt_of_le h2 (Nat.mul_le_mul_right _ h3);have e2:r / b=lo:=by
  refine (Nat.div_eq_iff hb).2 ⟨h1,?_⟩;rw [Nat.add_mul] at e;omega
 have:=Nat.div_add_mod r b;rw [e2] at this;exact ⟨e2.symm,by omega⟩
theorem mul_step (a b j:Nat):65536*(a / 65536 ^ (j+1)*b)+dg a j*b=a / 65536 ^ j*b:=by
 have:=div_step a j;unfold dg;rw [← Nat.mul_assoc,← Nat.add_mul,← this]
def RetF (w:World) (v:Nat) (e:Ending) (w':World):Prop:=∃ A n c,e=.returned (.slice A n c)∧HA w' A n c v∧Below w.heap.size w w'∧(n≠0→∃ b o,A=some ⟨b,o,none⟩∧w.heap.size≤b)
def RetH (w:World) (v:Nat) (e:Ending) (w':World):Prop:=∃ A n c,e=.returned (.slice A n c)∧HA w' A n c v∧Below w.heap.size w w'
theorem RetF.h {w:World} {v:Nat} {e:Ending} {w':World} (h:RetF w v e w'):RetH w v e w':=by
 obtain ⟨A,n,c,h1,h2,h3,_⟩:=h;exact ⟨A,n,c,h1,h2,h3⟩
theorem int_one {b:Int}:∀ u∈(#[.int .i64 b]:Array Value).toList,u.oneCell'=true:=by
 intro u hu;simp at hu;rw [hu]
 rfl
theorem Own.ra {base:Nat} {e:TypeId} {w:World} {A:Option Addr} {n c:Nat} {hs:List Int} (h:Own base e 1 w A n c (hs.map (Value.int .i64))) (hd:Dg hs):RA w A n c (vh hs):=by
 refine ⟨hs,h.ints,hd,rfl,?_⟩;rcases h.2 with ⟨h7,h8⟩|⟨g',cap',cur',h7,_,_,h8,_⟩
 ·omega
 ·simp at h7;omega
theorem w64_in (x:Int) (h : -9223372036854775808≤x∧x≤9223372036854775807):wrap64 x=x:=by
 unfold wrap64;omega
theorem tmod_dg (v:Nat):(v:Int).tmod 65536=((v % 65536:Nat):Int):=by rw [Int.tmod_eq_emod_of_nonneg (by omega)];simp
theorem tdiv_dg (v:Nat):(v:Int).tdiv 65536=((v / 65536:Nat):Int):=by rw [Int.tdiv_eq_ediv_of_nonneg (by omega)];simp
theorem add_ra (A B:Option Addr) (n c m d a b:Nat) (w:World) (h:RA w A n c a) (h':RA w B m d b) (hn:n≤20000000000) (hm:m≤20000000000) :
  Calls Tryz.prog 187 #[.slice A n c,.slice B m d] w (RetH w (a+b)):=by
 have TA:=Hj (fun (i:Nat) (W:World) (hW:Below w.heap.size w W)=>at_ra A n c a i W (h.below hW));have TB:=Hj (fun (i:Nat) (W:World) (hW:Below w.heap.size w W)=>at_ra B m d b i W (h'.below hW));have HA2:=Hj h.lt;have HB2:=Hj h'.lt;obtain ⟨ii,hii,hz0,hz1,hz2⟩:=info_parts info_int;have HI:=Hj hii;have HZ0:=Hj hz0;have HZ1:=Hj hz1;have HZ2:=Hj hz2;clear h h' hii hz0 hz1 hz2;go_enter Tryz.func187,Tryz.ntmps187
 go_wp2_with fail
 go_loopw [5,6,7] (fun tout tc ti wr=>∃ (i:Nat) (Ah:Option Addr) (ch cy:Nat) (hs:List Int),i+cy≤max n m+1∧tout=.slice Ah i ch∧tc=.int .i64 (cy:Int)∧ti=.int .i64 (i:Int)∧cy≤1∧Hid (Below w.heap.size w wr∧Own w.heap.size 3 1 wr Ah i ch (hs.map (Value.int .i64))∧AddI a b i hs cy)) (fun _ tc ti _=>2*(max n m-(intOf ti).toNat)+(intOf tc).toNat)
 case atStart=>exact ⟨0,none,0,0,[],by omega,rfl,rfl,rfl,by omega,Below.refl _ _,Own.nil _ _ _ _,AddI.start a b⟩
 case round =>
  obtain ⟨i,Ah,ch,cy,hs,hi,rfl,rfl,rfl,hcy,hR⟩:=hrel;by_cases h1:i<n
  ·have d1:decide ((i:Int)<(n:Int))=true:=decide_eq_true (by omega);have l1:=dg_lt a i;have l2:=dg_lt b i;have T1:=Hj (TA.out i wr hR.out.1);have T2:=Hj (TB.out i wr hR.out.1);have hst:=hR.out.2.2.step;have hme:(dg a i+dg b i+cy) / 65536≤1∧i+1+(dg a i+dg b i+cy) / 65536≤max n m+1∧2*(max n m-(i+1))+(dg a i+dg b i+cy) / 65536<2*(max n m-i)+cy:=by
    by_cases hi:i<max n m
    ·omega
    ·have z1:dg a i=0:=dg_over (lt_pow_le HA2.out (by omega));have z2:dg b i=0:=dg_over (lt_pow_le HB2.out (by omega));omega
   obtain ⟨hB,hO,-⟩:=hR.out;generalize dg a i=x at *;generalize dg b i=y at *;have e1:IntKind.i64.wrap ((x:Int)+(y:Int))=((x+y:Nat):Int):=IntWalk.i64_in _ (by omega);have e2:IntKind.i64.wrap (((x+y:Nat):Int)+(cy:Int))=((x+y+cy:Nat):Int):=IntWalk.i64_in _ (by omega);have hv:x+y+cy≤131072:=by omega
   generalize x+y+cy=v at *;generalize ((x+y:Nat):Int)=s at *;have e3:=tmod_dg v;have e4:=tdiv_dg v;have e5:(v:Int) % 65536=((v % 65536:Nat):Int):=by simp
   have e6:(v:Int) / 65536=((v / 65536:Nat):Int):=by simp
   have e7:IntKind.i64.wrap ((v % 65536:Nat):Int)=((v % 65536:Nat):Int):=IntWalk.i64_in _ (by omega);have e8:IntKind.i64.wrap ((v / 65536:Nat):Int)=((v / 65536:Nat):Int):=IntWalk.i64_in _ (by omega);generalize v % 65536=r at *;generalize v / 65536=q at *;have hil:i+1≤40000000002:=by omega
   have e9:IntKind.i64.wrap ((i:Int)+1)=((i+1:Nat):Int):=IntWalk.i64_in _ (by omega);have HST:=Hj hst;have HME:=Hj hme;clear hst hme hR l1 l2 hv;have k1:=(Kp.refl wr).alloc (.cells #[.int .i64 (r:Int)] 3);have q1:Below w.heap.size w (wr.alloc (.cells #[.int .i64 (r:Int)] 3)):=hB.trans (Below.mono k1 hB.size);have o1:=hO.keep k1;have m1:=Blk.new wr 3 #[.int .i64 (r:Int)];clear hB hO
   go_wp2_with fail
   refine T1.out.mono ?_;rintro e w2 ⟨rfl,rfl⟩;clear T1
   go_wp2_with fail
   refine T2.out.mono ?_;rintro e w3 ⟨rfl,rfl⟩;clear T2
   go_wp2_with (first
    | (at_builtin;refine wpList_append_my rfl (base:=w.heap.size) (e:=3) (size:=1) (bytes:=8) (.tmp 34) (.tmp 37) 199 rfl Tryz.underlying199 HI.out HZ0.out HZ1.out HZ2.out rfl (by decide) (xs:=hs.map (Value.int .i64)) (news:=[.int .i64 (r:Int)]) rfl (by exact o1) rfl (by exact Blk.src m1 rfl int_one) (by simp only [maxLen];omega) (by omega) (by exact q1.size) ?_
       intro B1 cb1 w4 hO1 hb1 hk1;have g1:Below w.heap.size w w4:=q1.trans hb1;clear hb1 hk1))
   have hfin:Below w.heap.size w w4∧Own w.heap.size 3 1 w4 B1 (i+1) cb1 ((hs ++ [(r:Int)]).map (Value.int .i64))∧AddI a b (i+1) (hs ++ [(r:Int)]) q:=by
    refine ⟨g1,?_,HST.out⟩;rw [List.map_append];exact hO1
   have HF:=Hj hfin;clear hfin g1 hO1 m1 o1 q1 k1;go_wp2;go_roundw
   case rel=>exact ⟨i+1,B1,cb1,q,hs ++ [(r:Int)],by have:=HME.out;omega,rfl,rfl,by first|rfl|(rw [e9]),HME.out.1,HF.out⟩
   case measure=>have:=HME.out;simp [intOf];omega
  ·have d1:decide ((i:Int)<(n:Int))=false:=decide_eq_false (by omega);by_cases h2:i<m
   ·have d2:decide ((i:Int)<(m:Int))=true:=decide_eq_true (by omega);have l1:=dg_lt a i;have l2:=dg_lt b i;have T1:=Hj (TA.out i wr hR.out.1);have T2:=Hj (TB.out i wr hR.out.1);have hst:=hR.out.2.2.step;have hme:(dg a i+dg b i+cy) / 65536≤1∧i+1+(dg a i+dg b i+cy) / 65536≤max n m+1∧2*(max n m-(i+1))+(dg a i+dg b i+cy) / 65536<2*(max n m-i)+cy:=by
     by_cases hi:i<max n m
     ·omega
     ·have z1:dg a i=0:=dg_over (lt_pow_le HA2.out (by omega));have z2:dg b i=0:=dg_over (lt_pow_le HB2.out (by omega));omega
    obtain ⟨hB,hO,-⟩:=hR.out;generalize dg a i=x at *;generalize dg b i=y at *;have e1:IntKind.i64.wrap ((x:Int)+(y:Int))=((x+y:Nat):Int):=IntWalk.i64_in _ (by omega);have e2:IntKind.i64.wrap (((x+y:Nat):Int)+(cy:Int))=((x+y+cy:Nat):Int):=IntWalk.i64_in _ (by omega);have hv:x+y+cy≤131072:=by omega
    generalize x+y+cy=v at *;generalize ((x+y:Nat):Int)=s at *;have e3:=tmod_dg v;have e4:=tdiv_dg v;have e5:(v:Int) % 65536=((v % 65536:Nat):Int):=by simp
    have e6:(v:Int) / 65536=((v / 65536:Nat):Int):=by simp
    have e7:IntKind.i64.wrap ((v % 65536:Nat):Int)=((v % 65536:Nat):Int):=IntWalk.i64_in _ (by omega);have e8:IntKind.i64.wrap ((v / 65536:Nat):Int)=((v / 65536:Nat):Int):=IntWalk.i64_in _ (by omega);generalize v % 65536=r at *;generalize v / 65536=q at *;have hil:i+1≤40000000002:=by omega
    have e9:IntKind.i64.wrap ((i:Int)+1)=((i+1:Nat):Int):=IntWalk.i64_in _ (by omega);have HST:=Hj hst;have HME:=Hj hme;clear hst hme hR l1 l2 hv;have k1:=(Kp.refl wr).alloc (.cells #[.int .i64 (r:Int)] 3);have q1:Below w.heap.size w (wr.alloc (.cells #[.int .i64 (r:Int)] 3)):=hB.trans (Below.mono k1 hB.size);have o1:=hO.keep k1;have m1:=Blk.new wr 3 #[.int .i64 (r:Int)];clear hB hO
    go_wp2_with fail
    refine T1.out.mono ?_;rintro e w2 ⟨rfl,rfl⟩;clear T1
    go_wp2_with fail
    refine T2.out.mono ?_;rintro e w3 ⟨rfl,rfl⟩;clear T2
    go_wp2_with (first
     | (at_builtin;refine wpList_append_my rfl (base:=w.heap.size) (e:=3) (size:=1) (bytes:=8) (.tmp 34) (.tmp 37) 199 rfl Tryz.underlying199 HI.out HZ0.out HZ1.out HZ2.out rfl (by decide) (xs:=hs.map (Value.int .i64)) (news:=[.int .i64 (r:Int)]) rfl (by exact o1) rfl (by exact Blk.src m1 rfl int_one) (by simp only [maxLen];omega) (by omega) (by exact q1.size) ?_
        intro B1 cb1 w4 hO1 hb1 hk1;have g1:Below w.heap.size w w4:=q1.trans hb1;clear hb1 hk1))
    have hfin:Below w.heap.size w w4∧Own w.heap.size 3 1 w4 B1 (i+1) cb1 ((hs ++ [(r:Int)]).map (Value.int .i64))∧AddI a b (i+1) (hs ++ [(r:Int)]) q:=by
     refine ⟨g1,?_,HST.out⟩;rw [List.map_append];exact hO1
    have HF:=Hj hfin;clear hfin g1 hO1 m1 o1 q1 k1;go_wp2;go_roundw
    case rel=>exact ⟨i+1,B1,cb1,q,hs ++ [(r:Int)],by have:=HME.out;omega,rfl,rfl,by first|rfl|(rw [e9]),HME.out.1,HF.out⟩
    case measure=>have:=HME.out;simp [intOf];omega
   ·have d2:decide ((i:Int)<(m:Int))=false:=decide_eq_false (by omega);by_cases h3:cy=0
    ·subst h3;obtain ⟨hB,hO,hI⟩:=hR.out;have hv:=hI.done (lt_pow_le HA2.out (by omega)) (lt_pow_le HB2.out (by omega));have hra:=hO.ra hI.2.1;rw [hv] at hra;have HT:=Hj (trim_ra Ah i ch (a+b) wr hra (by omega));have HB:=Hj hB;clear hR hB hO hI hv hra TA TB
     go_wp2_with fail
     refine HT.out.mono ?_;rintro e w1 ⟨A1,n1,rfl,hI,rfl⟩;have HI2:=Hj hI;clear hI HT;go_wp2;go_ret;exact ⟨A1,n1,ch,rfl,HI2.out,HB.out⟩
    ·have d3:decide ((0:Int)<(cy:Int))=true:=decide_eq_true (by omega);have l1:=dg_lt a i;have l2:=dg_lt b i;have T1:=Hj (TA.out i wr hR.out.1);have T2:=Hj (TB.out i wr hR.out.1);have hst:=hR.out.2.2.step;have hme:(dg a i+dg b i+cy) / 65536≤1∧i+1+(dg a i+dg b i+cy) / 65536≤max n m+1∧2*(max n m-(i+1))+(dg a i+dg b i+cy) / 65536<2*(max n m-i)+cy:=by
      by_cases hi:i<max n m
      ·omega
      ·have z1:dg a i=0:=dg_over (lt_pow_le HA2.out (by omega));have z2:dg b i=0:=dg_over (lt_pow_le HB2.out (by omega));omega
     obtain ⟨hB,hO,-⟩:=hR.out;generalize dg a i=x at *;generalize dg b i=y at *;have e1:IntKind.i64.wrap ((x:Int)+(y:Int))=((x+y:Nat):Int):=IntWalk.i64_in _ (by omega);have e2:IntKind.i64.wrap (((x+y:Nat):Int)+(cy:Int))=((x+y+cy:Nat):Int):=IntWalk.i64_in _ (by omega);have hv:x+y+cy≤131072:=by omega
     generalize x+y+cy=v at *;generalize ((x+y:Nat):Int)=s at *;have e3:=tmod_dg v;have e4:=tdiv_dg v;have e5:(v:Int) % 65536=((v % 65536:Nat):Int):=by simp
     have e6:(v:Int) / 65536=((v / 65536:Nat):Int):=by simp
     have e7:IntKind.i64.wrap ((v % 65536:Nat):Int)=((v % 65536:Nat):Int):=IntWalk.i64_in _ (by omega);have e8:IntKind.i64.wrap ((v / 65536:Nat):Int)=((v / 65536:Nat):Int):=IntWalk.i64_in _ (by omega);generalize v % 65536=r at *;generalize v / 65536=q at *;have hil:i+1≤40000000002:=by omega
     have e9:IntKind.i64.wrap ((i:Int)+1)=((i+1:Nat):Int):=IntWalk.i64_in _ (by omega);have HST:=Hj hst;have HME:=Hj hme;clear hst hme hR l1 l2 hv;have k1:=(Kp.refl wr).alloc (.cells #[.int .i64 (r:Int)] 3);have q1:Below w.heap.size w (wr.alloc (.cells #[.int .i64 (r:Int)] 3)):=hB.trans (Below.mono k1 hB.size);have o1:=hO.keep k1;have m1:=Blk.new wr 3 #[.int .i64 (r:Int)];clear hB hO
     go_wp2_with fail
     refine T1.out.mono ?_;rintro e w2 ⟨rfl,rfl⟩;clear T1
     go_wp2_with fail
     refine T2.out.mono ?_;rintro e w3 ⟨rfl,rfl⟩;clear T2
     go_wp2_with (first
      | (at_builtin;refine wpList_append_my rfl (base:=w.heap.size) (e:=3) (size:=1) (bytes:=8) (.tmp 34) (.tmp 37) 199 rfl Tryz.underlying199 HI.out HZ0.out HZ1.out HZ2.out rfl (by decide) (xs:=hs.map (Value.int .i64)) (news:=[.int .i64 (r:Int)]) rfl (by exact o1) rfl (by exact Blk.src m1 rfl int_one) (by simp only [maxLen];omega) (by omega) (by exact q1.size) ?_
         intro B1 cb1 w4 hO1 hb1 hk1;have g1:Below w.heap.size w w4:=q1.trans hb1;clear hb1 hk1))
     have hfin:Below w.heap.size w w4∧Own w.heap.size 3 1 w4 B1 (i+1) cb1 ((hs ++ [(r:Int)]).map (Value.int .i64))∧AddI a b (i+1) (hs ++ [(r:Int)]) q:=by
      refine ⟨g1,?_,HST.out⟩;rw [List.map_append];exact hO1
     have HF:=Hj hfin;clear hfin g1 hO1 m1 o1 q1 k1;go_wp2;go_roundw
     case rel=>exact ⟨i+1,B1,cb1,q,hs ++ [(r:Int)],by have:=HME.out;omega,rfl,rfl,by first|rfl|(rw [e9]),HME.out.1,HF.out⟩
     case measure=>have:=HME.out;simp [intOf];omega
theorem sub_ra (A B:Option Addr) (n c m d a b:Nat) (w:World) (h:RA w A n c a) (h':RA w B m d b) (hn:n≤40000000000) (hab:b≤a) :
  Calls Tryz.prog 189 #[.slice A n c,.slice B m d] w (RetF w (a-b)):=by
 have TA:=Hj (fun (i:Nat) (W:World) (hW:Below w.heap.size w W)=>at_ra A n c a i W (h.below hW));have TB:=Hj (fun (i:Nat) (W:World) (hW:Below w.heap.size w W)=>at_ra B m d b i W (h'.below hW));have HA2:=Hj h.lt;have HAB:=Hj hab;obtain ⟨ii,hii,hz0,hz1,hz2⟩:=info_parts info_int;have HI:=Hj hii;have HZ0:=Hj hz0;have HZ1:=Hj hz1;have HZ2:=Hj hz2;clear h h' hab hii hz0 hz1 hz2;go_enter Tryz.func189,Tryz.ntmps189
 go_wp2_with fail
 go_loopw [5,6,7] (fun tout tc ti wr=>∃ (i:Nat) (Ah:Option Addr) (ch lt:Nat) (hs:List Int),i≤n∧tout=.slice Ah i ch∧tc=.int .i64 (lt:Int)∧ti=.int .i64 (i:Int)∧lt≤1∧Hid (Below w.heap.size w wr∧Own w.heap.size 3 1 wr Ah i ch (hs.map (Value.int .i64))∧SubI a b i hs lt)) (fun _ _ ti _=>n-(intOf ti).toNat)
 case atStart=>exact ⟨0,none,0,0,[],by omega,rfl,rfl,rfl,by omega,Below.refl _ _,Own.nil _ _ _ _,SubI.start a b⟩
 case round =>
  obtain ⟨i,Ah,ch,lt,hs,hi,rfl,rfl,rfl,hcy,hR⟩:=hrel;by_cases h1:i<n
  ·have d1:decide ((i:Int)<(n:Int))=true:=decide_eq_true (by omega);by_cases hv:dg b i+lt≤dg a i
   ·have hv0:=hv;clear hv0;have T1:=Hj (TA.out i wr hR.out.1);have T2:=Hj (TB.out i wr hR.out.1);have HST:=Hj (hR.out.2.2.step0 hv);have d3:decide (((dg a i:Nat):Int)-((dg b i:Nat):Int)-(lt:Int)<0)=false:=decide_eq_false (by omega);have l1:=dg_lt a i;have l2:=dg_lt b i;obtain ⟨hB,hO,-⟩:=hR.out;generalize dg a i=x at *;generalize dg b i=y at *;obtain ⟨z1,hz1⟩:∃ z,z=(x:Int)-(y:Int):=⟨_,rfl⟩;obtain ⟨z2,hz2⟩:∃ z,z=z1-(lt:Int):=⟨_,rfl⟩;obtain ⟨z3,hz3⟩:∃ z,z=z2+65536:=⟨_,rfl⟩;rw [← hz1,← hz2] at HST d3
    (try rw [← hz3] at HST)
    have e1:IntKind.i64.wrap ((x:Int)-(y:Int))=z1:=by rw [← hz1];exact IntWalk.i64_in _ (by omega)
    have e2:IntKind.i64.wrap (z1-(lt:Int))=z2:=by rw [← hz2];exact IntWalk.i64_in _ (by omega)
    have e4:IntKind.i64.wrap (z2+65536)=z3:=by rw [← hz3];exact IntWalk.i64_in _ (by omega)
    have f1:wrap64 ((x:Int)-(y:Int))=z1:=by rw [← hz1];exact w64_in _ (by omega)
    have f2:wrap64 (z1-(lt:Int))=z2:=by rw [← hz2];exact w64_in _ (by omega)
    have f4:wrap64 (z2+65536)=z3:=by rw [← hz3];exact w64_in _ (by omega)
    clear hz1 hz2 hz3;have e9:IntKind.i64.wrap ((i:Int)+1)=((i+1:Nat):Int):=IntWalk.i64_in _ (by omega);clear hR l1 l2 hv;have k1:=(Kp.refl wr).alloc (.cells #[.int .i64 z2] 3);have q1:Below w.heap.size w (wr.alloc (.cells #[.int .i64 z2] 3)):=hB.trans (Below.mono k1 hB.size);have o1:=hO.keep k1;have m1:=Blk.new wr 3 #[.int .i64 z2];clear hB hO
    go_wp2_with fail
    refine T1.out.mono ?_;rintro e w2 ⟨rfl,rfl⟩;clear T1
    go_wp2_with fail
    refine T2.out.mono ?_;rintro e w3 ⟨rfl,rfl⟩;clear T2
    go_wp2_with (first
     | (at_builtin;refine wpList_append_my rfl (base:=w.heap.size) (e:=3) (size:=1) (bytes:=8) (.tmp 28) (.tmp 30) 199 rfl Tryz.underlying199 HI.out HZ0.out HZ1.out HZ2.out rfl (by decide) (xs:=hs.map (Value.int .i64)) (news:=[.int .i64 z2]) rfl (by exact o1) rfl (by exact Blk.src m1 rfl int_one) (by simp only [maxLen];omega) (by omega) (by exact q1.size) ?_
        intro B1 cb1 w4 hO1 hb1 hk1;have g1:Below w.heap.size w w4:=q1.trans hb1;clear hb1 hk1))
    have hfin:Below w.heap.size w w4∧Own w.heap.size 3 1 w4 B1 (i+1) cb1 ((hs ++ [z2]).map (Value.int .i64))∧SubI a b (i+1) (hs ++ [z2]) 0:=by
     refine ⟨g1,?_,HST.out⟩;rw [List.map_append];exact hO1
    have HF:=Hj hfin;clear hfin g1 hO1 m1 o1 q1 k1;go_wp2;go_roundw
    case rel=>exact ⟨i+1,B1,cb1,0,hs ++ [z2],by omega,rfl,rfl,by first|rfl|(rw [e9]),by omega,HF.out⟩
    case measure=>simp [intOf];omega
   ·have hv0:=hv;clear hv0;have T1:=Hj (TA.out i wr hR.out.1);have T2:=Hj (TB.out i wr hR.out.1);have HST:=Hj (hR.out.2.2.step1 (by omega));have d3:decide (((dg a i:Nat):Int)-((dg b i:Nat):Int)-(lt:Int)<0)=true:=decide_eq_true (by omega);have l1:=dg_lt a i;have l2:=dg_lt b i;obtain ⟨hB,hO,-⟩:=hR.out;generalize dg a i=x at *;generalize dg b i=y at *;obtain ⟨z1,hz1⟩:∃ z,z=(x:Int)-(y:Int):=⟨_,rfl⟩;obtain ⟨z2,hz2⟩:∃ z,z=z1-(lt:Int):=⟨_,rfl⟩;obtain ⟨z3,hz3⟩:∃ z,z=z2+65536:=⟨_,rfl⟩;rw [← hz1,← hz2] at HST d3
    (try rw [← hz3] at HST)
    have e1:IntKind.i64.wrap ((x:Int)-(y:Int))=z1:=by rw [← hz1];exact IntWalk.i64_in _ (by omega)
    have e2:IntKind.i64.wrap (z1-(lt:Int))=z2:=by rw [← hz2];exact IntWalk.i64_in _ (by omega)
    have e4:IntKind.i64.wrap (z2+65536)=z3:=by rw [← hz3];exact IntWalk.i64_in _ (by omega)
    have f1:wrap64 ((x:Int)-(y:Int))=z1:=by rw [← hz1];exact w64_in _ (by omega)
    have f2:wrap64 (z1-(lt:Int))=z2:=by rw [← hz2];exact w64_in _ (by omega)
    have f4:wrap64 (z2+65536)=z3:=by rw [← hz3];exact w64_in _ (by omega)
    clear hz1 hz2 hz3;have e9:IntKind.i64.wrap ((i:Int)+1)=((i+1:Nat):Int):=IntWalk.i64_in _ (by omega);clear hR l1 l2 hv;have k1:=(Kp.refl wr).alloc (.cells #[.int .i64 z3] 3);have q1:Below w.heap.size w (wr.alloc (.cells #[.int .i64 z3] 3)):=hB.trans (Below.mono k1 hB.size);have o1:=hO.keep k1;have m1:=Blk.new wr 3 #[.int .i64 z3];clear hB hO
    go_wp2_with fail
    refine T1.out.mono ?_;rintro e w2 ⟨rfl,rfl⟩;clear T1
    go_wp2_with fail
    refine T2.out.mono ?_;rintro e w3 ⟨rfl,rfl⟩;clear T2
    go_wp2_with (first
     | (at_builtin;refine wpList_append_my rfl (base:=w.heap.size) (e:=3) (size:=1) (bytes:=8) (.tmp 28) (.tmp 30) 199 rfl Tryz.underlying199 HI.out HZ0.out HZ1.out HZ2.out rfl (by decide) (xs:=hs.map (Value.int .i64)) (news:=[.int .i64 z3]) rfl (by exact o1) rfl (by exact Blk.src m1 rfl int_one) (by simp only [maxLen];omega) (by omega) (by exact q1.size) ?_
        intro B1 cb1 w4 hO1 hb1 hk1;have g1:Below w.heap.size w w4:=q1.trans hb1;clear hb1 hk1))
    have hfin:Below w.heap.size w w4∧Own w.heap.size 3 1 w4 B1 (i+1) cb1 ((hs ++ [z3]).map (Value.int .i64))∧SubI a b (i+1) (hs ++ [z3]) 1:=by
     refine ⟨g1,?_,HST.out⟩;rw [List.map_append];exact hO1
    have HF:=Hj hfin;clear hfin g1 hO1 m1 o1 q1 k1;go_wp2;go_roundw
    case rel=>exact ⟨i+1,B1,cb1,1,hs ++ [z3],by omega,rfl,rfl,by first|rfl|(rw [e9]),by omega,HF.out⟩
    case measure=>simp [intOf];omega
  ·obtain rfl:i=n:=by omega
   obtain ⟨hB,hO,hI⟩:=hR.out;have hv:=hI.done HA2.out HAB.out;have hra:=hO.ra hI.2.1;rw [hv] at hra;have hfr:i≠0→∃ g,Ah=some ⟨g,0,none⟩∧w.heap.size≤g:=fun hi0=>by
    obtain ⟨g,cap,hv9,hb9,_⟩:=World.ownsRow.form hO (Nat.pos_of_ne_zero hi0);simp at hv9;exact ⟨g,hv9.1,hb9⟩
   have HFR:=Hj hfr;clear hfr;have HT:=Hj (trim_at Ah i ch (a-b) wr hra (by omega));have HLE:=Hj (show (hd (a-b)).length≤i from hd_len_le.2 (Nat.lt_of_le_of_lt (Nat.sub_le _ _) HA2.out));have HB:=Hj hB;clear hR hB hO hI hv hra TA TB
   go_wp2_with fail
   refine HT.out.mono ?_;rintro e w1 ⟨A1,n1,rfl,hI,rfl,hAA⟩;have HAA:=Hj (show n1≠0→∃ b o,A1=some ⟨b,o,none⟩∧w.heap.size≤b from fun h1=>by
    have hle:i≠0:=fun h0=>h1 (by have h2:=HLE.out;have h3:=hI.1;omega);obtain ⟨g,hg1,hg2⟩:=HFR.out hle;exact ⟨g,0,hAA g 0 hg1,hg2⟩)
   clear hAA;have HI2:=Hj hI;clear hI HT;go_wp2;go_ret;exact ⟨A1,n1,ch,rfl,HI2.out,HB.out,HAA.out⟩
theorem times_ra (A:Option Addr) (n c a N:Nat) (w:World) (h:RA w A n c a) (hn:n≤40000000000) (hN:N≤65536) :
  Calls Tryz.prog 215 #[.slice A n c,.int .i64 (N:Int)] w (RetH w (a*N)):=by
 have TA:=Hj (fun (i:Nat) (W:World) (hW:Below w.heap.size w W)=>at_ra A n c a i W (h.below hW));have HA2:=Hj h.lt;obtain ⟨ii,hii,hz0,hz1,hz2⟩:=info_parts info_int;have HI:=Hj hii;have HZ0:=Hj hz0;have HZ1:=Hj hz1;have HZ2:=Hj hz2;clear h hii hz0 hz1 hz2;go_enter Tryz.func215,Tryz.ntmps215
 go_wp2_with fail
 go_loopw [5,6,7] (fun tout tc ti wr=>∃ (i:Nat) (Ah:Option Addr) (ch cy:Nat) (hs:List Int),i+min 1 cy≤n+1∧tout=.slice Ah i ch∧tc=.int .i64 (cy:Int)∧ti=.int .i64 (i:Int)∧Hid (Below w.heap.size w wr∧Own w.heap.size 3 1 wr Ah i ch (hs.map (Value.int .i64))∧TimI a N i hs cy)) (fun _ tc ti _=>2*(n-(intOf ti).toNat)+min 1 (intOf tc).toNat)
 case atStart=>exact ⟨0,none,0,0,[],by omega,rfl,rfl,rfl,Below.refl _ _,Own.nil _ _ _ _,TimI.start a N⟩
 case round =>
  obtain ⟨i,Ah,ch,cy,hs,hi,rfl,rfl,rfl,hR⟩:=hrel;by_cases h1:i<n
  ·have d1:decide ((i:Int)<(n:Int))=true:=decide_eq_true (by omega);have l1:=dg_mul_le a i hN;have T1:=Hj (TA.out i wr hR.out.1);have hst:=hR.out.2.2.step hN;have hc4:=hR.out.2.2.2.2.2;have hme:(dg a i*N+cy) / 65536<65536∧i+1+min 1 ((dg a i*N+cy) / 65536)≤n+1∧2*(n-(i+1))+min 1 ((dg a i*N+cy) / 65536)<2*(n-i)+min 1 cy:=by
    by_cases hi:i<n
    ·omega
    ·have z1:dg a i=0:=dg_over (lt_pow_le HA2.out (by omega));rw [z1,Nat.zero_mul];omega
   obtain ⟨hB,hO,-⟩:=hR.out;generalize dg a i=x at *;have e1:IntKind.i64.wrap ((x:Int)*(N:Int))=((x*N:Nat):Int):=IntWalk.i64_in _ (by rw [← Int.natCast_mul];omega);generalize x*N=p at *;have e2:IntKind.i64.wrap ((p:Int)+(cy:Int))=((p+cy:Nat):Int):=IntWalk.i64_in _ (by omega);have hv:p+cy≤4294967296:=by omega
   generalize p+cy=v at *;have e3:=tmod_dg v;have e4:=tdiv_dg v;have e5:(v:Int) % 65536=((v % 65536:Nat):Int):=by simp
   have e6:(v:Int) / 65536=((v / 65536:Nat):Int):=by simp
   have e7:IntKind.i64.wrap ((v % 65536:Nat):Int)=((v % 65536:Nat):Int):=IntWalk.i64_in _ (by omega);have e8:IntKind.i64.wrap ((v / 65536:Nat):Int)=((v / 65536:Nat):Int):=IntWalk.i64_in _ (by omega);generalize v % 65536=r at *;generalize v / 65536=q at *;have e9:IntKind.i64.wrap ((i:Int)+1)=((i+1:Nat):Int):=IntWalk.i64_in _ (by omega);have HST:=Hj hst;have HME:=Hj hme;clear hst hme hR l1 hv;have k1:=(Kp.refl wr).alloc (.cells #[.int .i64 (r:Int)] 3);have q1:Below w.heap.size w (wr.alloc (.cells #[.int .i64 (r:Int)] 3)):=hB.trans (Below.mono k1 hB.size);have o1:=hO.keep k1;have m1:=Blk.new wr 3 #[.int .i64 (r:Int)];clear hB hO
   go_wp2_with fail
   refine T1.out.mono ?_;rintro e w2 ⟨rfl,rfl⟩;clear T1
   go_wp2_with (first
    | (at_builtin;refine wpList_append_my rfl (base:=w.heap.size) (e:=3) (size:=1) (bytes:=8) (.tmp 26) (.tmp 29) 199 rfl Tryz.underlying199 HI.out HZ0.out HZ1.out HZ2.out rfl (by decide) (xs:=hs.map (Value.int .i64)) (news:=[.int .i64 (r:Int)]) rfl (by exact o1) rfl (by exact Blk.src m1 rfl int_one) (by simp only [maxLen];omega) (by omega) (by exact q1.size) ?_
       intro B1 cb1 w4 hO1 hb1 hk1;have g1:Below w.heap.size w w4:=q1.trans hb1;clear hb1 hk1))
   have hfin:Below w.heap.size w w4∧Own w.heap.size 3 1 w4 B1 (i+1) cb1 ((hs ++ [(r:Int)]).map (Value.int .i64))∧TimI a N (i+1) (hs ++ [(r:Int)]) q:=by
    refine ⟨g1,?_,HST.out⟩;rw [List.map_append];exact hO1
   have HF:=Hj hfin;clear hfin g1 hO1 m1 o1 q1 k1;go_wp2;go_roundw
   case rel=>exact ⟨i+1,B1,cb1,q,hs ++ [(r:Int)],by have:=HME.out;omega,rfl,rfl,by first|rfl|(rw [e9]),HF.out⟩
   case measure=>have:=HME.out;simp [intOf];omega
  ·have d1:decide ((i:Int)<(n:Int))=false:=decide_eq_false (by omega);by_cases h3:cy=0
   ·subst h3;obtain ⟨hB,hO,hI⟩:=hR.out;have hv:=hI.done (lt_pow_le HA2.out (by omega));have hra:=hO.ra hI.2.1;rw [hv] at hra;have HT:=Hj (trim_ra Ah i ch (a*N) wr hra (by omega));have HB:=Hj hB;clear hR hB hO hI hv hra TA
    go_wp2_with fail
    refine HT.out.mono ?_;rintro e w1 ⟨A1,n1,rfl,hI,rfl⟩;have HI2:=Hj hI;clear hI HT;go_wp2;go_ret;exact ⟨A1,n1,ch,rfl,HI2.out,HB.out⟩
   ·have d2:decide ((0:Int)<(cy:Int))=true:=decide_eq_true (by omega);have l1:=dg_mul_le a i hN;have T1:=Hj (TA.out i wr hR.out.1);have hst:=hR.out.2.2.step hN;have hc4:=hR.out.2.2.2.2.2;have hme:(dg a i*N+cy) / 65536<65536∧i+1+min 1 ((dg a i*N+cy) / 65536)≤n+1∧2*(n-(i+1))+min 1 ((dg a i*N+cy) / 65536)<2*(n-i)+min 1 cy:=by
     by_cases hi:i<n
     ·omega
     ·have z1:dg a i=0:=dg_over (lt_pow_le HA2.out (by omega));rw [z1,Nat.zero_mul];omega
    obtain ⟨hB,hO,-⟩:=hR.out;generalize dg a i=x at *;have e1:IntKind.i64.wrap ((x:Int)*(N:Int))=((x*N:Nat):Int):=IntWalk.i64_in _ (by rw [← Int.natCast_mul];omega);generalize x*N=p at *;have e2:IntKind.i64.wrap ((p:Int)+(cy:Int))=((p+cy:Nat):Int):=IntWalk.i64_in _ (by omega);have hv:p+cy≤4294967296:=by omega
    generalize p+cy=v at *;have e3:=tmod_dg v;have e4:=tdiv_dg v;have e5:(v:Int) % 65536=((v % 65536:Nat):Int):=by simp
    have e6:(v:Int) / 65536=((v / 65536:Nat):Int):=by simp
    have e7:IntKind.i64.wrap ((v % 65536:Nat):Int)=((v % 65536:Nat):Int):=IntWalk.i64_in _ (by omega);have e8:IntKind.i64.wrap ((v / 65536:Nat):Int)=((v / 65536:Nat):Int):=IntWalk.i64_in _ (by omega);generalize v % 65536=r at *;generalize v / 65536=q at *;have e9:IntKind.i64.wrap ((i:Int)+1)=((i+1:Nat):Int):=IntWalk.i64_in _ (by omega);have HST:=Hj hst;have HME:=Hj hme;clear hst hme hR l1 hv;have k1:=(Kp.refl wr).alloc (.cells #[.int .i64 (r:Int)] 3);have q1:Below w.heap.size w (wr.alloc (.cells #[.int .i64 (r:Int)] 3)):=hB.trans (Below.mono k1 hB.size);have o1:=hO.keep k1;have m1:=Blk.new wr 3 #[.int .i64 (r:Int)];clear hB hO
    go_wp2_with fail
    refine T1.out.mono ?_;rintro e w2 ⟨rfl,rfl⟩;clear T1
    go_wp2_with (first
     | (at_builtin;refine wpList_append_my rfl (base:=w.heap.size) (e:=3) (size:=1) (bytes:=8) (.tmp 26) (.tmp 29) 199 rfl Tryz.underlying199 HI.out HZ0.out HZ1.out HZ2.out rfl (by decide) (xs:=hs.map (Value.int .i64)) (news:=[.int .i64 (r:Int)]) rfl (by exact o1) rfl (by exact Blk.src m1 rfl int_one) (by simp only [maxLen];omega) (by omega) (by exact q1.size) ?_
        intro B1 cb1 w4 hO1 hb1 hk1;have g1:Below w.heap.size w w4:=q1.trans hb1;clear hb1 hk1))
    have hfin:Below w.heap.size w w4∧Own w.heap.size 3 1 w4 B1 (i+1) cb1 ((hs ++ [(r:Int)]).map (Value.int .i64))∧TimI a N (i+1) (hs ++ [(r:Int)]) q:=by
     refine ⟨g1,?_,HST.out⟩;rw [List.map_append];exact hO1
    have HF:=Hj hfin;clear hfin g1 hO1 m1 o1 q1 k1;go_wp2;go_roundw
    case rel=>exact ⟨i+1,B1,cb1,q,hs ++ [(r:Int)],by have:=HME.out;omega,rfl,rfl,by first|rfl|(rw [e9]),HF.out⟩
    case measure=>have:=HME.out;simp [intOf];omega
def tp (a k:Nat):Nat:=a / 65536 ^ k
theorem tp_step (a j:Nat):tp a j=tp a (j+1)*65536+dg a j:=by
 have:=div_step a j;unfold tp dg;omega
theorem tp_top {a n:Nat} (h:a<65536 ^ n):tp a n=0:=Nat.div_eq_of_lt h
theorem tp_zero (a:Nat):tp a 0=a:=by unfold tp;rw [Nat.pow_zero,Nat.div_one]
theorem tp_le (a k:Nat):tp a k≤a:=Nat.div_le_self _ _
theorem RA.cells {w:World} {A:Option Addr} {n c v:Nat} (h:RA w A n c v) (hn:n≠0):∃ b o,A=some ⟨b,o,none⟩∧b<w.heap.size∧∀ j,j<n→w.cell? ⟨b,o+j,none⟩=some (.int .i64 ((dg v j:Nat):Int)):=by
 obtain ⟨hs,h1,h2,h3,h4⟩:=h;obtain ⟨b,o,e,hb,hc⟩:=h1.2 hn;refine ⟨b,o,e,hb,fun j hj=>?_⟩;rw [hc j hj,vh_get h2,h3]
 rfl
theorem small_ra (A:Option Addr) (n c a:Nat) (w:World) (h:RA w A n c a) (hn:n≤3) :
  Calls Tryz.prog 214 #[.slice A n c] w fun e w'=>e=.returned (.int .i64 (a:Int))∧w'=w:=by
 have HX:=Hj h;have ha:a<281474976710656:=Nat.lt_of_lt_of_le h.lt (Nat.pow_le_pow_right (by decide) hn);clear h;go_enter Tryz.func214,Tryz.ntmps214
 go_wp2_with fail
 go_loopw [3,4] (fun t3 t4 wr=>∃ k:Nat,k≤n∧t4=.int .i64 ((k:Int)-1)∧t3=.int .i64 ((tp a k:Nat):Int)∧Hid (wr=w)) (fun _ t4 _=>(intOf t4+1).toNat)
 case atStart=>exact ⟨n,Nat.le_refl _,by first|rfl|go_num,by rw [tp_top HX.out.lt];rfl,by first|exact Hj rfl|exact Hj trivial⟩
 case round =>
  obtain ⟨k,hk,rfl,rfl,hW⟩:=hrel;obtain rfl:=hW.out;by_cases h0:k=0
  ·subst h0;rw [tp_zero];go_wp2;go_ret;exact ⟨rfl,rfl⟩
  ·obtain ⟨j,rfl⟩:∃ j,k=j+1:=⟨k-1,by omega⟩;obtain ⟨b,o,rfl,hb,hc⟩:=HX.out.cells (by omega);have cj:=hc j (by omega);have hs:=tp_step a j;have l1:=dg_lt a j;have l2:=tp_le a j;have ej:(((j+1:Nat):Int)-1)=(j:Int):=by omega
   simp only [ej];generalize tp a (j+1)=x at *;generalize dg a j=y at *;generalize hz:tp a j=z at *;have HZ:=Hj hz;clear hz;obtain ⟨p,hp⟩:∃ p:Nat,p=x*65536:=⟨_,rfl⟩;have e1:IntKind.i64.wrap ((x:Int)*65536)=(p:Int):=by rw [hp];exact IntWalk.i64_in _ (by omega)
   have f1:wrap64 ((x:Int)*65536)=(p:Int):=by rw [w64_in _ (by omega)];omega
   have e2:IntKind.i64.wrap ((p:Int)+(y:Int))=(z:Int):=by rw [IntWalk.i64_in _ (by omega)];omega
   have f2:wrap64 ((p:Int)+(y:Int))=(z:Int):=by rw [w64_in _ (by omega)];omega
   have j1:(0:Int)≤(j:Int):=by omega
   have j2:(j:Int)<(n:Int):=by omega
   clear hc hs hp;go_wp2;go_roundw
   case rel=>exact ⟨j,by omega,by first|rfl|go_num,by rw [HZ.out],by first|exact Hj rfl|exact Hj trivial⟩
   case measure=>simp [intOf]
theorem w_of {z:Int} {k:Nat} (hz:z=k) (hk:k≤281474976710656):IntKind.i64.wrap z=(k:Int)∧wrap64 z=(k:Int):=by
 subst hz;exact ⟨IntWalk.i64_in _ (by omega),w64_in _ (by omega)⟩
theorem lit3 (w:World) (r0 r1 r2:Int):IsAt (w.alloc (.cells #[.int .i64 r0,.int .i64 r1,.int .i64 r2] 3)) (some ⟨w.heap.size,0,none⟩) 3 [r0,r1,r2]:=by
 have hB:=Blk.new w 3 #[.int .i64 r0,.int .i64 r1,.int .i64 r2];refine ⟨rfl,fun _=>⟨w.heap.size,0,rfl,hB.lt,fun j hj=>?_⟩⟩;rw [Nat.zero_add,hB.cell];obtain rfl|rfl|rfl:j=0∨j=1∨j=2:=by omega
 all_goals rfl
theorem wr_nat {x:Nat} (h:x≤281474976710656):IntKind.i64.wrap (x:Int)=(x:Int)∧wrap64 (x:Int)=(x:Int):=⟨IntWalk.i64_in _ (by omega),w64_in _ (by omega)⟩
theorem back_ra (v:Nat) (w:World) (hv:v<281474976710656) :
  Calls Tryz.prog 213 #[.int .i64 (v:Int)] w (RetH w v):=by
 have hq:v / 65536<4294967296:=by omega
 have e1:=tmod_dg v;have e2:=tdiv_dg v;have e1':(v:Int) % 65536=((v % 65536:Nat):Int):=by simp
 have e2':(v:Int) / 65536=((v / 65536:Nat):Int):=by simp
 have hR:vh [((v % 65536:Nat):Int),((v / 65536 % 65536:Nat):Int),((v / 65536 / 65536:Nat):Int)]=v∧Dg [((v % 65536:Nat):Int),((v / 65536 % 65536:Nat):Int),((v / 65536 / 65536:Nat):Int)] :=
  ⟨by simp only [vh,Int.toNat_natCast];omega,Dg.cons (by omega) (by omega) (Dg.cons (by omega) (by omega) (Dg.cons (by omega) (by omega) Dg.nil))⟩
 have e3:=tmod_dg (v / 65536);have e4:=tdiv_dg (v / 65536);have e3':((v / 65536:Nat):Int) % 65536=((v / 65536 % 65536:Nat):Int):=by simp
 have e4':((v / 65536:Nat):Int) / 65536=((v / 65536 / 65536:Nat):Int):=by simp
 obtain ⟨w1,u1⟩:=wr_nat (Nat.le_trans (Nat.mod_le v 65536) (Nat.le_of_lt hv));obtain ⟨w2,u2⟩:=wr_nat (Nat.le_trans (Nat.div_le_self v 65536) (Nat.le_of_lt hv));obtain ⟨w3,u3⟩:=wr_nat (Nat.le_trans (Nat.mod_le (v / 65536) 65536) (Nat.le_trans (Nat.div_le_self v 65536) (Nat.le_of_lt hv)));obtain ⟨w4,u4⟩:=wr_nat (Nat.le_trans (Nat.div_le_self (v / 65536) 65536) (Nat.le_trans (Nat.div_le_self v 65536) (Nat.le_of_lt hv)));generalize v % 65536=r0 at *;generalize v / 65536 % 65536=r1 at *;generalize v / 65536 / 65536=r2 at *;generalize v / 65536=q1 at *;have hI:RA (w.alloc (.cells #[.int .i64 (r0:Int),.int .i64 (r1:Int),.int .i64 (r2:Int)] 3)) (some ⟨w.heap.size,0,none⟩) 3 3 v:=⟨[(r0:Int),(r1:Int),(r2:Int)],lit3 w _ _ _,hR.2,hR.1,Nat.le_refl _⟩;have T:=Hj (trim_ra (some ⟨w.heap.size,0,none⟩) 3 3 v _ hI (by omega));have HB:=Hj ((Below.refl w.heap.size w).alloc (Nat.le_refl _) (.cells #[.int .i64 (r0:Int),.int .i64 (r1:Int),.int .i64 (r2:Int)] 3));have hv1:(0:Int)≤(v:Int):=Int.natCast_nonneg _;have hq1:(0:Int)≤(q1:Int):=Int.natCast_nonneg _;clear hI hR hv hq;go_enter Tryz.func213,Tryz.ntmps213
 go_wp2_with fail
 refine T.out.mono ?_;rintro e w1 ⟨A1,n1,rfl,hI1,rfl⟩;have HI:=Hj hI1;clear hI1;go_wp2;go_ret;exact ⟨A1,n1,3,rfl,HI.out,HB.out⟩
theorem Own.lit {base:Nat} (w:World) (x:Int) (e:TypeId) (hb:base≤w.heap.size):Own base e 1 (w.alloc (.cells #[.int .i64 x] e)) (some ⟨w.heap.size,0,none⟩) 1 1 [.int .i64 x] :=
 ⟨rfl,Or.inr ⟨w.heap.size,1,#[.int .i64 x],rfl,hb,heap_alloc_new w _,Nat.le_refl _,by decide,rfl,rfl⟩⟩
theorem RA.srcOf {w:World} {A:Option Addr} {n c v:Nat} (h:RA w A n c v):∃ hs,SrcAt w A n 1 (hs.map (Value.int .i64))∧Dg hs∧vh hs=v∧hs.length=n:=by
 obtain ⟨hs,h1,h2,h3,h4⟩:=h;exact ⟨hs,h1.src,h2,h3,h1.1⟩
theorem Own.front {base:Nat} {e:TypeId} {w:World} {A:Option Addr} {n c x v:Nat} {hs:List Int} (h:Own base e 1 w A (1+n) c ([.int .i64 (x:Int)] ++ hs.map (Value.int .i64))) (hd:Dg hs) (hv:vh hs=v) (hx:x<65536):RA w A (1+n) c (x+65536*v):=by
 have h2:Own base e 1 w A (1+n) c (((x:Int) :: hs).map (Value.int .i64)):=h;have:=h2.ra (Dg.cons (by omega) (by omega) hd)
 rwa [vh_cons,Int.toNat_natCast,hv] at this
def mv (a b j s:Nat):Nat:=65536*(tp a (j+1)*b)+min (1024*s) (dg a j)*b
theorem mv_zero (a b j:Nat):mv a b j 0=0+65536*(tp a (j+1)*b):=by unfold mv;simp
theorem mv_step (a b j s N:Nat) (h:min (1024*(s+1)) (dg a j)=min (1024*s) (dg a j)+N):mv a b j s+b*N=mv a b j (s+1):=by
 unfold mv;rw [h,Nat.add_mul,Nat.mul_comm b N,Nat.add_assoc]
theorem mv_done (a b j s:Nat) (h:dg a j≤1024*s):mv a b j s=tp a j*b:=by
 unfold mv;rw [Nat.min_eq_right h];have:=mul_step a b j;unfold tp;omega
theorem mv_lt {a b n m j:Nat} (s:Nat) (ha:a<65536 ^ n) (hb:b<65536 ^ m):mv a b j s<65536 ^ (n+m):=by
 have h1:mv a b j s≤tp a j*b:=by
  rw [tp_step a j,Nat.add_mul];unfold mv;have:=Nat.mul_le_mul_right b (Nat.min_le_right (1024*s) (dg a j));rw [Nat.mul_assoc,Nat.mul_left_comm];omega
 have h2:tp a j*b≤a*b:=Nat.mul_le_mul_right _ (tp_le a j);have h3:a*b<65536 ^ n*65536 ^ m:=Nat.mul_lt_mul'' ha hb;rw [Nat.pow_add];omega
theorem mul_ra (A B:Option Addr) (n c m d a b:Nat) (w:World) (h:RA w A n c a) (h':RA w B m d b) (hn:n≤6000000000) (hm:m≤6000000000) :
  Calls Tryz.prog 185 #[.slice A n c,.slice B m d] w (RetH w (a*b)):=by
 by_cases hs:n+m≤3
 ·have S1:=Hj (small_ra A n c a w h (by omega));have S2:=Hj (small_ra B m d b w h' (by omega));have hab:a*b<281474976710656:=by
   have h1:=h.lt;have h2:=h'.lt;have h3:a*b<65536 ^ n*65536 ^ m:=Nat.mul_lt_mul'' h1 h2;rw [← Nat.pow_add] at h3;exact Nat.lt_of_lt_of_le h3 (Nat.pow_le_pow_right (by decide) hs)
  have T:=Hj (back_ra (a*b) w hab);have e1:IntKind.i64.wrap ((a:Int)*(b:Int))=((a*b:Nat):Int):=by rw [← Int.natCast_mul];exact (wr_nat (Nat.le_of_lt hab)).1
  have f1:wrap64 ((a:Int)*(b:Int))=((a*b:Nat):Int):=by rw [← Int.natCast_mul];exact (wr_nat (Nat.le_of_lt hab)).2
  have e2:IntKind.i64.wrap ((n:Int)+(m:Int))=((n+m:Nat):Int):=IntWalk.i64_in _ (by omega);have f2:wrap64 ((n:Int)+(m:Int))=((n+m:Nat):Int):=by rw [w64_in _ (by omega)];omega
  have d1:decide (((n+m:Nat):Int)≤3)=true:=decide_eq_true (by omega);have d2:decide (n+m≤3)=true:=decide_eq_true hs;generalize a*b=p at *;generalize ((n+m:Nat):Int)=q at *;clear h h' hab;go_enter Tryz.func185,Tryz.ntmps185
  go_wp2_with fail
  refine S1.out.mono ?_;rintro e w1 ⟨rfl,rfl⟩
  go_wp2_with fail
  refine S2.out.mono ?_;rintro e w1 ⟨rfl,rfl⟩
  go_wp2_with fail
  refine T.out.mono ?_;rintro e w2 ⟨A1,n1,c1,rfl,h1,hb2⟩;have HF:=Hj (And.intro h1 hb2);clear h1 hb2 T;go_wp2;go_ret;exact ⟨A1,n1,c1,rfl,HF.out⟩
 ·have TB:=Hj (fun (N:Nat) (W:World) (hW:Below w.heap.size w W) (hN:N≤65536)=>times_ra B m d b N W (h'.below hW) (by omega) hN);have HAL:=Hj h.lt;have HBL:=Hj h'.lt;have HX:=Hj h;have e2:IntKind.i64.wrap ((n:Int)+(m:Int))=((n+m:Nat):Int):=IntWalk.i64_in _ (by omega);have f2:wrap64 ((n:Int)+(m:Int))=((n+m:Nat):Int):=by rw [w64_in _ (by omega)];omega
  have d1:decide (((n+m:Nat):Int)≤3)=false:=decide_eq_false (by omega);have d2:decide (n+m≤3)=false:=decide_eq_false hs;generalize ((n+m:Nat):Int)=q at *;obtain ⟨ii,hii,hz0,hz1,hz2⟩:=info_parts info_int;have HI:=Hj hii;have HZ0:=Hj hz0;have HZ1:=Hj hz1;have HZ2:=Hj hz2;clear h h' hs hii hz0 hz1 hz2;go_enter Tryz.func185,Tryz.ntmps185
  go_wp2_with fail
  clear e2 f2 d1 d2
  go_loopw [5,6] (fun t5 t6 wr=>∃ (t:Nat) (Ao:Option Addr) (no co:Nat),t≤n∧t6=.int .i64 ((t:Int)-1)∧t5=.slice Ao no co∧no+t≤2*n+m+1∧Hid (Below w.heap.size w wr∧RA wr Ao no co (tp a t*b))) (fun _ t6 _=>(intOf t6+1).toNat)
  case atStart=>exact ⟨n,none,0,0,Nat.le_refl _,by first|rfl|go_num,rfl,by omega,Below.refl _ _,by rw [tp_top HAL.out,Nat.zero_mul];exact RA.nil⟩
  case round =>
   obtain ⟨t,Ao,no,co,ht,rfl,rfl,hno,hR⟩:=hrel;by_cases h0:t=0
   ·subst h0;obtain ⟨hB,hra⟩:=hR.out;rw [tp_zero] at hra;have T:=Hj (trim_ra Ao no co (a*b) wr hra (by omega));have HB:=Hj hB;clear hB hra hR TB HX
    go_wp2_with fail
    refine T.out.mono ?_;rintro e w1 ⟨A1,n1,rfl,hI1,rfl⟩;have HI1:=Hj hI1;clear hI1 T;go_wp2;go_ret;exact ⟨A1,n1,co,rfl,HI1.out,HB.out⟩
   ·obtain ⟨j,rfl⟩:∃ j,t=j+1:=⟨t-1,by omega⟩;obtain ⟨ba,oa,hAe,hba,hca⟩:=HX.out.cells (by omega);have cj:=hca j (by omega);have ej:(((j+1:Nat):Int)-1)=(j:Int):=by omega
    simp only [ej];obtain ⟨hB,hra⟩:=hR.out;have j1:(0:Int)≤(j:Int):=by omega
    have j2:(j:Int)<(n:Int):=by omega
    obtain ⟨hs,hsr,hsd,hsv,hsl⟩:=hra.srcOf;have k1:=(Kp.refl wr).alloc (.cells #[.int .i64 0] 3);have q1:Below w.heap.size w (wr.alloc (.cells #[.int .i64 0] 3)):=hB.trans (Below.mono k1 hB.size);have o1:=Own.lit (base:=w.heap.size) wr 0 3 hB.size;have m1:=hsr.below k1;have HSD:=Hj hsd;have HSV:=Hj hsv;have HSL:=Hj hsl;clear hca hR hB hra hsr hsd hsv hsl;subst hAe
    go_wp2_with (first
     | (at_builtin;refine wpList_append_my rfl (base:=w.heap.size) (e:=3) (size:=1) (bytes:=8) (.tmp 27) (.tmp 28) 199 rfl Tryz.underlying199 HI.out HZ0.out HZ1.out HZ2.out rfl (by decide) (xs:=[.int .i64 0]) (news:=hs.map (Value.int .i64)) rfl (by exact o1) rfl (by exact m1) (by simp only [maxLen];omega) (by omega) (by exact q1.size) ?_
        intro B1 cb1 w4 hO1 hb1 hk1;have g1:Below w.heap.size w w4:=q1.trans hb1;clear hb1 hk1))
    have hra4:=Own.front (x:=0) hO1 HSD.out HSV.out (by decide);rw [← mv_zero a b j] at hra4;have HR4:=Hj (And.intro g1 hra4);clear hra4 g1 hO1 q1 o1 m1 k1 HSD HSV HSL;obtain ⟨wv,hwv⟩:∃ v,v=w4:=⟨_,rfl⟩;rw [← hwv] at HR4 ⊢;clear hwv
    go_loopw [5,7] (fun t5 t7 wr=>∃ (s:Nat) (Ai:Option Addr) (ni ci:Nat),t5=.slice Ai ni ci∧t7=.int .i64 ((1024*s:Nat):Int)∧ni+j≤2*n+m+1∧Hid (Below w.heap.size w wr∧RA wr Ai ni ci (mv a b j s))) (fun _ t7 _=>dg a j-(intOf t7).toNat)
    case atStart=>exact ⟨0,B1,1+no,cb1,rfl,rfl,by omega,HR4.out⟩
    case round =>
     clear HR4;obtain ⟨s,Ai,ni,ci,rfl,rfl,hni,hR⟩:=hrel;by_cases hk:1024*s<dg a j
     ·have l1:=dg_lt a j;obtain ⟨z,hz⟩:∃ z:Nat,z=dg a j-1024*s:=⟨_,rfl⟩;obtain ⟨N,hN0⟩:∃ N:Nat,N=min 1024 z:=⟨_,rfl⟩;have hN:N≤65536:=by omega
      have hmin:min (1024*(s+1)) (dg a j)=min (1024*s) (dg a j)+N:=by omega
      have hme:dg a j-1024*(s+1)<dg a j-1024*s:=by omega
      have e3:IntKind.i64.wrap (((dg a j:Nat):Int)-((1024*s:Nat):Int))=(z:Int):=by rw [IntWalk.i64_in _ (by omega)];omega
      have f3:wrap64 (((dg a j:Nat):Int)-((1024*s:Nat):Int))=(z:Int):=by rw [w64_in _ (by omega)];omega
      have m1:min 1024 (z:Int)=(N:Int):=by omega
      have m2:(if z<1024 then (z:Int) else 1024)=(N:Int):=by split<;>omega
      have m3:(if (z:Int)<1024 then (z:Int) else 1024)=(N:Int):=by split<;>omega
      have d1:decide (((1024*s:Nat):Int)<((dg a j:Nat):Int))=true:=decide_eq_true (by omega);have hst:=mv_step a b j s N hmin;have hlt:=mv_lt (s+1) (j:=j) HAL.out HBL.out;have T1:=Hj (TB.out N wr hR.out.1 hN);have T2:=Hj (fun (W:World) (hW:Kp wr W) (A1:Option Addr) (n1 c1:Nat) (h1:RA W A1 n1 c1 (b*N)) (hn1:n1≤20000000000)=>add_ra Ai A1 ni ci n1 c1 (mv a b j s) (b*N) W (hR.out.2.below hW) h1 (by omega) hn1);rw [hst] at T2;have cj2:=(hR.out.1.cell (p:=⟨ba,oa+j,none⟩) hba).trans cj;have e9:IntKind.i64.wrap (((1024*s:Nat):Int)+1024)=((1024*(s+1):Nat):Int):=IntWalk.i64_in _ (by omega);have f9:wrap64 (((1024*s:Nat):Int)+1024)=((1024*(s+1):Nat):Int):=by rw [w64_in _ (by omega)];omega
      have HLT:=Hj hlt;have HB:=Hj hR.out.1;have HME:=Hj hme;have hbN:b*N<65536 ^ (m+1):=by rw [Nat.pow_succ];exact Nat.mul_lt_mul_of_lt_of_le HBL.out hN (by decide)
      have HBN:=Hj hbN;clear hst hlt hR hmin hme hbN hz hN0 hk l1;generalize hk1:((1024*s:Nat):Int)=k1 at *;have HK1:=Hj hk1;generalize hk2:((1024*(s+1):Nat):Int)=k2 at *;have HK2:=Hj hk2;clear hk1 hk2
      go_wp2_with fail
      refine T1.out.mono ?_;rintro e w5 ⟨A5,n5,c5,rfl,h5,hb5⟩;have hn5:=h5.len HBN.out;have T3:=Hj (T2.out w5 hb5 A5 n5 c5 h5.ra (by omega));have HB5:=Hj (HB.out.trans (hb5.mono HB.out.size));clear h5 hb5 T2 T1
      go_wp2_with fail
      refine T3.out.mono ?_;rintro e w6 ⟨A6,n6,c6,rfl,h6,hb6⟩;have hn6:=h6.len HLT.out;have HF:=Hj (show Below w.heap.size w w6∧RA w6 A6 n6 c6 (mv a b j (s+1)) from ⟨HB5.out.trans (hb6.mono HB5.out.size),h6.ra⟩);clear h6 hb6 T3;go_wp2;go_roundw
      case rel=>exact ⟨s+1,A6,n6,c6,rfl,by rw [HK2.out],by omega,HF.out⟩
      case measure=>have:=HME.out;rw [← HK1.out,← HK2.out];simp [intOf];omega
     ·have hv:=mv_done a b j s (by omega);have d1:decide (((1024*s:Nat):Int)<((dg a j:Nat):Int))=false:=decide_eq_false (by omega);have cj2:=(hR.out.1.cell (p:=⟨ba,oa+j,none⟩) hba).trans cj;rw [hv] at hR;have HF:=Hj hR.out;generalize hk1:((1024*s:Nat):Int)=k1 at *;clear hk1 hR hv hk;go_wp2;go_roundw
      case rel=>exact ⟨j,Ai,ni,ci,by omega,by first|rfl|go_num,rfl,hni,HF.out⟩
      case measure=>simp [intOf]
end Go.Proofs.YtjajigkacccdgaaGreat
