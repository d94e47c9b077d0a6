/-
Lemmas of the walk; no further conditions.
-/
import Derived.Test.YtjajigkacccdgaaGreatTgBA
set_option linter.unusedVariables false
set_option linter.unusedSimpArgs false
set_option maxRecDepth 100000
set_option maxHeartbeats 16000000
namespace Go.Proofs.YtjajigkacccdgaaGreat
open Go.RowKit
open Wd
def RetF (w:World) (v:Nat) (e:Ending) (w':World):Prop:=∃ A n c,e=.returned (.slice A n c)∧HA w' A n c v∧Below w.heap.size w w'∧(n≠0→∃ b o,A=some ⟨b,o,none⟩∧w.heap.size≤b)
def RetH (w:World) (v:Nat) (e:Ending) (w':World):Prop:=∃ A n c,e=.returned (.slice A n c)∧HA w' A n c v∧Below w.heap.size w w'
theorem int_one {b:Int}:∀ u∈(#[.int .i64 b]:Array Value).toList,u.oneCell'=true:=by
 intro u hu;simp at hu;rw [hu]
 rfl
theorem Own.ra {base:Nat} {e:TypeId} {w:World} {A:Option Addr} {n c:Nat} {hs:List Int} (h:Own base e 1 w A n c (hs.map (Value.int .i64))) (hd:Dg hs):RA w A n c (vh hs):=by
 refine ⟨hs,h.ints,hd,rfl,?_⟩;rcases h.2 with ⟨h7,h8⟩|⟨g',cap',cur',h7,_,_,h8,_⟩
 ·omega
 ·simp at h7;omega
theorem w64_in (x:Int) (h : -9223372036854775808≤x∧x≤9223372036854775807):wrap64 x=x:=by
 unfold wrap64;omega
theorem tmod_dg (v:Nat):(v:Int).tmod 65536=((v % 65536:Nat):Int):=by rw [Int.tmod_eq_emod_of_nonneg (by omega)];simp
theorem tdiv_dg (v:Nat):(v:Int).tdiv 65536=((v / 65536:Nat):Int):=by rw [Int.tdiv_eq_ediv_of_nonneg (by omega)];simp
theorem sub_ra (A B:Option Addr) (n c m d a b:Nat) (w:World) (h:RA w A n c a) (h':RA w B m d b) (hn:n≤40000000000) (hab:b≤a) :
  Calls Tryz.prog 189 #[.slice A n c,.slice B m d] w (RetF w (a-b)):=by
 have TA:=Hj (fun (i:Nat) (W:World) (hW:Below w.heap.size w W)=>at_ra A n c a i W (h.below hW));have TB:=Hj (fun (i:Nat) (W:World) (hW:Below w.heap.size w W)=>at_ra B m d b i W (h'.below hW));have HA2:=Hj h.lt;have HAB:=Hj hab;obtain ⟨ii,hii,hz0,hz1,hz2⟩:=info_parts info_int;have HI:=Hj hii;have HZ0:=Hj hz0;have HZ1:=Hj hz1;have HZ2:=Hj hz2;clear h h' hab hii hz0 hz1 hz2;go_enter Tryz.func189,Tryz.ntmps189
 go_wp2_with fail
 go_loopw [5,6,7] (fun tout tc ti wr=>∃ (i:Nat) (Ah:Option Addr) (ch lt:Nat) (hs:List Int),i≤n∧tout=.slice Ah i ch∧tc=.int .i64 (lt:Int)∧ti=.int .i64 (i:Int)∧lt≤1∧Hid (Below w.heap.size w wr∧Own w.heap.size 3 1 wr Ah i ch (hs.map (Value.int .i64))∧SubI a b i hs lt)) (fun _ _ ti _=>n-(intOf ti).toNat)
 case atStart=>exact ⟨0,none,0,0,[],by omega,rfl,rfl,rfl,by omega,Below.refl _ _,Own.nil _ _ _ _,SubI.start a b⟩
 case round =>
  obtain ⟨i,Ah,ch,lt,hs,hi,rfl,rfl,rfl,hcy,hR⟩:=hrel;by_cases h1:i<n
  ·have d1:decide ((i:Int)<(n:Int))=true:=decide_eq_true (by omega);by_cases hv:dg b i+lt≤dg a i
   ·have hv0:=hv;clear hv0;have T1:=Hj (TA.out i wr hR.out.1);have T2:=Hj (TB.out i wr hR.out.1);have HST:=Hj (hR.out.2.2.step0 hv);have d3:decide (((dg a i:Nat):Int)-((dg b i:Nat):Int)-(lt:Int)<0)=false:=decide_eq_false (by omega);have l1:=dg_lt a i;have l2:=dg_lt b i;obtain ⟨hB,hO,-⟩:=hR.out;generalize dg a i=x at *;generalize dg b i=y at *;obtain ⟨z1,hz1⟩:∃ z,z=(x:Int)-(y:Int):=⟨_,rfl⟩;obtain ⟨z2,hz2⟩:∃ z,z=z1-(lt:Int):=⟨_,rfl⟩;obtain ⟨z3,hz3⟩:∃ z,z=z2+65536:=⟨_,rfl⟩;rw [← hz1,← hz2] at HST d3
    (try rw [← hz3] at HST)
    have e1:IntKind.i64.wrap ((x:Int)-(y:Int))=z1:=by rw [← hz1];exact IntWalk.i64_in _ (by omega)
    have e2:IntKind.i64.wrap (z1-(lt:Int))=z2:=by rw [← hz2];exact IntWalk.i64_in _ (by omega)
    have e4:IntKind.i64.wrap (z2+65536)=z3:=by rw [← hz3];exact IntWalk.i64_in _ (by omega)
    have f1:wrap64 ((x:Int)-(y:Int))=z1:=by rw [← hz1];exact w64_in _ (by omega)
    have f2:wrap64 (z1-(lt:Int))=z2:=by rw [← hz2];exact w64_in _ (by omega)
    have f4:wrap64 (z2+65536)=z3:=by rw [← hz3];exact w64_in _ (by omega)
    clear hz1 hz2 hz3;have e9:IntKind.i64.wrap ((i:Int)+1)=((i+1:Nat):Int):=IntWalk.i64_in _ (by omega);clear hR l1 l2 hv;have k1:=(Kp.refl wr).alloc (.cells #[.int .i64 z2] 3);have q1:Below w.heap.size w (wr.alloc (.cells #[.int .i64 z2] 3)):=hB.trans (Below.mono k1 hB.size);have o1:=hO.keep k1;have m1:=Blk.new wr 3 #[.int .i64 z2];clear hB hO
    go_wp2_with fail
    refine T1.out.mono ?_;rintro e w2 ⟨rfl,rfl⟩;clear T1
    go_wp2_with fail
    refine T2.out.mono ?_;rintro e w3 ⟨rfl,rfl⟩;clear T2
    go_wp2_with (first
     | (at_builtin;refine wpList_append_my rfl (base:=w.heap.size) (e:=3) (size:=1) (bytes:=8) (.tmp 28) (.tmp 30) 199 rfl Tryz.underlying199 HI.out HZ0.out HZ1.out HZ2.out rfl (by decide) (xs:=hs.map (Value.int .i64)) (news:=[.int .i64 z2]) rfl (by exact o1) rfl (by exact Blk.src m1 rfl int_one) (by simp only [maxLen];omega) (by omega) (by exact q1.size) ?_
        intro B1 cb1 w4 hO1 hb1 hk1;have g1:Below w.heap.size w w4:=q1.trans hb1;clear hb1 hk1))
    have hfin:Below w.heap.size w w4∧Own w.heap.size 3 1 w4 B1 (i+1) cb1 ((hs ++ [z2]).map (Value.int .i64))∧SubI a b (i+1) (hs ++ [z2]) 0:=by
     refine ⟨g1,?_,HST.out⟩;rw [List.map_append];exact hO1
    have HF:=Hj hfin;clear hfin g1 hO1 m1 o1 q1 k1;go_wp2;go_roundw
    case rel=>exact ⟨i+1,B1,cb1,0,hs ++ [z2],by omega,rfl,rfl,by first|rfl|(rw [e9]),by omega,HF.out⟩
    case measure=>simp [intOf];omega
   ·have hv0:=hv;clear hv0;have T1:=Hj (TA.out i wr hR.out.1);have T2:=Hj (TB.out i wr hR.out.1);have HST:=Hj (hR.out.2.2.step1 (by omega));have d3:decide (((dg a i:Nat):Int)-((dg b i:Nat):Int)-(lt:Int)<0)=true:=decide_eq_true (by omega);have l1:=dg_lt a i;have l2:=dg_lt b i;obtain ⟨hB,hO,-⟩:=hR.out;generalize dg a i=x at *;generalize dg b i=y at *;obtain ⟨z1,hz1⟩:∃ z,z=(x:Int)-(y:Int):=⟨_,rfl⟩;obtain ⟨z2,hz2⟩:∃ z,z=z1-(lt:Int):=⟨_,rfl⟩;obtain ⟨z3,hz3⟩:∃ z,z=z2+65536:=⟨_,rfl⟩;rw [← hz1,← hz2] at HST d3
    (try rw [← hz3] at HST)
    have e1:IntKind.i64.wrap ((x:Int)-(y:Int))=z1:=by rw [← hz1];exact IntWalk.i64_in _ (by omega)
    have e2:IntKind.i64.wrap (z1-(lt:Int))=z2:=by rw [← hz2];exact IntWalk.i64_in _ (by omega)
    have e4:IntKind.i64.wrap (z2+65536)=z3:=by rw [← hz3];exact IntWalk.i64_in _ (by omega)
    have f1:wrap64 ((x:Int)-(y:Int))=z1:=by rw [← hz1];exact w64_in _ (by omega)
    have f2:wrap64 (z1-(lt:Int))=z2:=by rw [← hz2];exact w64_in _ (by omega)
    have f4:wrap64 (z2+65536)=z3:=by rw [← hz3];exact w64_in _ (by omega)
    clear hz1 hz2 hz3;have e9:IntKind.i64.wrap ((i:Int)+1)=((i+1:Nat):Int):=IntWalk.i64_in _ (by omega);clear hR l1 l2 hv;have k1:=(Kp.refl wr).alloc (.cells #[.int .i64 z3] 3);have q1:Below w.heap.size w (wr.alloc (.cells #[.int .i64 z3] 3)):=hB.trans (Below.mono k1 hB.size);have o1:=hO.keep k1;have m1:=Blk.new wr 3 #[.int .i64 z3];clear hB hO
    go_wp2_with fail
    refine T1.out.mono ?_;rintro e w2 ⟨rfl,rfl⟩;clear T1
    go_wp2_with fail
    refine T2.out.mono ?_;rintro e w3 ⟨rfl,rfl⟩;clear T2
    go_wp2_with (first
     | (at_builtin;refine wpList_append_my rfl (base:=w.heap.size) (e:=3) (size:=1) (bytes:=8) (.tmp 28) (.tmp 30) 199 rfl Tryz.underlying199 HI.out HZ0.out HZ1.out HZ2.out rfl (by decide) (xs:=hs.map (Value.int .i64)) (news:=[.int .i64 z3]) rfl (by exact o1) rfl (by exact Blk.src m1 rfl int_one) (by simp only [maxLen];omega) (by omega) (by exact q1.size) ?_
        intro B1 cb1 w4 hO1 hb1 hk1;have g1:Below w.heap.size w w4:=q1.trans hb1;clear hb1 hk1))
    have hfin:Below w.heap.size w w4∧Own w.heap.size 3 1 w4 B1 (i+1) cb1 ((hs ++ [z3]).map (Value.int .i64))∧SubI a b (i+1) (hs ++ [z3]) 1:=by
     refine ⟨g1,?_,HST.out⟩;rw [List.map_append];exact hO1
    have HF:=Hj hfin;clear hfin g1 hO1 m1 o1 q1 k1;go_wp2;go_roundw
    case rel=>exact ⟨i+1,B1,cb1,1,hs ++ [z3],by omega,rfl,rfl,by first|rfl|(rw [e9]),by omega,HF.out⟩
    case measure=>simp [intOf];omega
  ·obtain rfl:i=n:=by omega
   obtain ⟨hB,hO,hI⟩:=hR.out;have hv:=hI.done HA2.out HAB.out;have hra:=hO.ra hI.2.1;rw [hv] at hra;have hfr:i≠0→∃ g,Ah=some ⟨g,0,none⟩∧w.heap.size≤g:=fun hi0=>by
    obtain ⟨g,cap,hv9,hb9,_⟩:=World.ownsRow.form hO (Nat.pos_of_ne_zero hi0);simp at hv9;exact ⟨g,hv9.1,hb9⟩
   have HFR:=Hj hfr;clear hfr;have HT:=Hj (trim_at Ah i ch (a-b) wr hra (by omega));have HLE:=Hj (show (hd (a-b)).length≤i from hd_len_le.2 (Nat.lt_of_le_of_lt (Nat.sub_le _ _) HA2.out));have HB:=Hj hB;clear hR hB hO hI hv hra TA TB
   go_wp2_with fail
   refine HT.out.mono ?_;rintro e w1 ⟨A1,n1,rfl,hI,rfl,hAA⟩;have HAA:=Hj (show n1≠0→∃ b o,A1=some ⟨b,o,none⟩∧w.heap.size≤b from fun h1=>by
    have hle:i≠0:=fun h0=>h1 (by have h2:=HLE.out;have h3:=hI.1;omega);obtain ⟨g,hg1,hg2⟩:=HFR.out hle;exact ⟨g,0,hAA g 0 hg1,hg2⟩)
   clear hAA;have HI2:=Hj hI;clear hI HT;go_wp2;go_ret;exact ⟨A1,n1,ch,rfl,HI2.out,HB.out,HAA.out⟩
theorem times_ra (A:Option Addr) (n c a N:Nat) (w:World) (h:RA w A n c a) (hn:n≤40000000000) (hN:N≤65536) :
  Calls Tryz.prog 215 #[.slice A n c,.int .i64 (N:Int)] w (RetH w (a*N)):=by
 have TA:=Hj (fun (i:Nat) (W:World) (hW:Below w.heap.size w W)=>at_ra A n c a i W (h.below hW));have HA2:=Hj h.lt;obtain ⟨ii,hii,hz0,hz1,hz2⟩:=info_parts info_int;have HI:=Hj hii;have HZ0:=Hj hz0;have HZ1:=Hj hz1;have HZ2:=Hj hz2;clear h hii hz0 hz1 hz2;go_enter Tryz.func215,Tryz.ntmps215
 go_wp2_with fail
 go_loopw [5,6,7] (fun tout tc ti wr=>∃ (i:Nat) (Ah:Option Addr) (ch cy:Nat) (hs:List Int),i+min 1 cy≤n+1∧tout=.slice Ah i ch∧tc=.int .i64 (cy:Int)∧ti=.int .i64 (i:Int)∧Hid (Below w.heap.size w wr∧Own w.heap.size 3 1 wr Ah i ch (hs.map (Value.int .i64))∧TimI a N i hs cy)) (fun _ tc ti _=>2*(n-(intOf ti).toNat)+min 1 (intOf tc).toNat)
 case atStart=>exact ⟨0,none,0,0,[],by omega,rfl,rfl,rfl,Below.refl _ _,Own.nil _ _ _ _,TimI.start a N⟩
 case round =>
  obtain ⟨i,Ah,ch,cy,hs,hi,rfl,rfl,rfl,hR⟩:=hrel;by_cases h1:i<n
  ·have d1:decide ((i:Int)<(n:Int))=true:=decide_eq_true (by omega);have l1:=dg_mul_le a i hN;have T1:=Hj (TA.out i wr hR.out.1);have hst:=hR.out.2.2.step hN;have hc4:=hR.out.2.2.2.2.2;have hme:(dg a i*N+cy) / 65536<65536∧i+1+min 1 ((dg a i*N+cy) / 65536)≤n+1∧2*(n-(i+1))+min 1 ((dg a i*N+cy) / 65536)<2*(n-i)+min 1 cy:=by
    by_cases hi:i<n
    ·omega
    ·have z1:dg a i=0:=dg_over (lt_pow_le HA2.out (by omega));rw [z1,Nat.zero_mul];omega
   obtain ⟨hB,hO,-⟩:=hR.out;generalize dg a i=x at *;have e1:IntKind.i64.wrap ((x:Int)*(N:Int))=((x*N:Nat):Int):=IntWalk.i64_in _ (by rw [← Int.natCast_mul];omega);generalize x*N=p at *;have e2:IntKind.i64.wrap ((p:Int)+(cy:Int))=((p+cy:Nat):Int):=IntWalk.i64_in _ (by omega);have hv:p+cy≤4294967296:=by omega
   generalize p+cy=v at *;have e3:=tmod_dg v;have e4:=tdiv_dg v;have e5:(v:Int) % 65536=((v % 65536:Nat):Int):=by simp
   have e6:(v:Int) / 65536=((v / 65536:Nat):Int):=by simp
   have e7:IntKind.i64.wrap ((v % 65536:Nat):Int)=((v % 65536:Nat):Int):=IntWalk.i64_in _ (by omega);have e8:IntKind.i64.wrap ((v / 65536:Nat):Int)=((v / 65536:Nat):Int):=IntWalk.i64_in _ (by omega);generalize v % 65536=r at *;generalize v / 65536=q at *;have e9:IntKind.i64.wrap ((i:Int)+1)=((i+1:Nat):Int):=IntWalk.i64_in _ (by omega);have HST:=Hj hst;have HME:=Hj hme;clear hst hme hR l1 hv;have k1:=(Kp.refl wr).alloc (.cells #[.int .i64 (r:Int)] 3);have q1:Below w.heap.size w (wr.alloc (.cells #[.int .i64 (r:Int)] 3)):=hB.trans (Below.mono k1 hB.size);have o1:=hO.keep k1;have m1:=Blk.new wr 3 #[.int .i64 (r:Int)];clear hB hO
   go_wp2_with fail
   refine T1.out.mono ?_;rintro e w2 ⟨rfl,rfl⟩;clear T1
   go_wp2_with (first
    | (at_builtin;refine wpList_append_my rfl (base:=w.heap.size) (e:=3) (size:=1) (bytes:=8) (.tmp 26) (.tmp 29) 199 rfl Tryz.underlying199 HI.out HZ0.out HZ1.out HZ2.out rfl (by decide) (xs:=hs.map (Value.int .i64)) (news:=[.int .i64 (r:Int)]) rfl (by exact o1) rfl (by exact Blk.src m1 rfl int_one) (by simp only [maxLen];omega) (by omega) (by exact q1.size) ?_
       intro B1 cb1 w4 hO1 hb1 hk1;have g1:Below w.heap.size w w4:=q1.trans hb1;clear hb1 hk1))
   have hfin:Below w.heap.size w w4∧Own w.heap.size 3 1 w4 B1 (i+1) cb1 ((hs ++ [(r:Int)]).map (Value.int .i64))∧TimI a N (i+1) (hs ++ [(r:Int)]) q:=by
    refine ⟨g1,?_,HST.out⟩;rw [List.map_append];exact hO1
   have HF:=Hj hfin;clear hfin g1 hO1 m1 o1 q1 k1;go_wp2;go_roundw
   case rel=>exact ⟨i+1,B1,cb1,q,hs ++ [(r:Int)],by have:=HME.out;omega,rfl,rfl,by first|rfl|(rw [e9]),HF.out⟩
   case measure=>have:=HME.out;simp [intOf];omega
  ·have d1:decide ((i:Int)<(n:Int))=false:=decide_eq_false (by omega);by_cases h3:cy=0
   ·subst h3;obtain ⟨hB,hO,hI⟩:=hR.out;have hv:=hI.done (lt_pow_le HA2.out (by omega));have hra:=hO.ra hI.2.1;rw [hv] at hra;have HT:=Hj (trim_ra Ah i ch (a*N) wr hra (by omega));have HB:=Hj hB;clear hR hB hO hI hv hra TA
    go_wp2_with fail
    refine HT.out.mono ?_;rintro e w1 ⟨A1,n1,rfl,hI,rfl⟩;have HI2:=Hj hI;clear hI HT;go_wp2;go_ret;exact ⟨A1,n1,ch,rfl,HI2.out,HB.out⟩
   ·have d2:decide ((0:Int)<(cy:Int))=true:=decide_eq_true (by omega);have l1:=dg_mul_le a i hN;have T1:=Hj (TA.out i wr hR.out.1);have hst:=hR.out.2.2.step hN;have hc4:=hR.out.2.2.2.2.2;have hme:(dg a i*N+cy) / 65536<65536∧i+1+min 1 ((dg a i*N+cy) / 65536)≤n+1∧2*(n-(i+1))+min 1 ((dg a i*N+cy) / 65536)<2*(n-i)+min 1 cy:=by
     by_cases hi:i<n
     ·omega
     ·have z1:dg a i=0:=dg_over (lt_pow_le HA2.out (by omega));rw [z1,Nat.zero_mul];omega
    obtain ⟨hB,hO,-⟩:=hR.out;generalize dg a i=x at *;have e1:IntKind.i64.wrap ((x:Int)*(N:Int))=((x*N:Nat):Int):=IntWalk.i64_in _ (by rw [← Int.natCast_mul];omega);generalize x*N=p at *;have e2:IntKind.i64.wrap ((p:Int)+(cy:Int))=((p+cy:Nat):Int):=IntWalk.i64_in _ (by omega);have hv:p+cy≤4294967296:=by omega
    generalize p+cy=v at *;have e3:=tmod_dg v;have e4:=tdiv_dg v;have e5:(v:Int) % 65536=((v % 65536:Nat):Int):=by simp
    have e6:(v:Int) / 65536=((v / 65536:Nat):Int):=by simp
    have e7:IntKind.i64.wrap ((v % 65536:Nat):Int)=((v % 65536:Nat):Int):=IntWalk.i64_in _ (by omega);have e8:IntKind.i64.wrap ((v / 65536:Nat):Int)=((v / 65536:Nat):Int):=IntWalk.i64_in _ (by omega);generalize v % 65536=r at *;generalize v / 65536=q at *;have e9:IntKind.i64.wrap ((i:Int)+1)=((i+1:Nat):Int):=IntWalk.i64_in _ (by omega);have HST:=Hj hst;have HME:=Hj hme;clear hst hme hR l1 hv;have k1:=(Kp.refl wr).alloc (.cells #[.int .i64 (r:Int)] 3);have q1:Below w.heap.size w (wr.alloc (.cells #[.int .i64 (r:Int)] 3)):=hB.trans (Below.mono k1 hB.size);have o1:=hO.keep k1;have m1:=Blk.new wr 3 #[.int .i64 (r:Int)];clear hB hO
    go_wp2_with fail
    refine T1.out.mono ?_;rintro e w2 ⟨rfl,rfl⟩;clear T1
    go_wp2_with (first
     | (at_builtin;refine wpList_append_my rfl (base:=w.heap.size) (e:=3) (size:=1) (bytes:=8) (.tmp 26) (.tmp 29) 199 rfl Tryz.underlying199 HI.out HZ0.out HZ1.out HZ2.out rfl (by decide) (xs:=hs.map (Value.int .i64)) (news:=[.int .i64 (r:Int)]) rfl (by exact o1) rfl (by exact Blk.src m1 rfl int_one) (by simp only [maxLen];omega) (by omega) (by exact q1.size) ?_
        intro B1 cb1 w4 hO1 hb1 hk1;have g1:Below w.heap.size w w4:=q1.trans hb1;clear hb1 hk1))
    have hfin:Below w.heap.size w w4∧Own w.heap.size 3 1 w4 B1 (i+1) cb1 ((hs ++ [(r:Int)]).map (Value.int .i64))∧TimI a N (i+1) (hs ++ [(r:Int)]) q:=by
     refine ⟨g1,?_,HST.out⟩;rw [List.map_append];exact hO1
    have HF:=Hj hfin;clear hfin g1 hO1 m1 o1 q1 k1;go_wp2;go_roundw
    case rel=>exact ⟨i+1,B1,cb1,q,hs ++ [(r:Int)],by have:=HME.out;omega,rfl,rfl,by first|rfl|(rw [e9]),HF.out⟩
    case measure=>have:=HME.out;simp [intOf];omega
def tp (a k:Nat):Nat:=a / 65536 ^ k
theorem tp_step (a j:Nat):tp a j=tp a (j+1)*65536+dg a j:=by
 have:=div_step a j;unfold tp dg;omega
theorem tp_top {a n:Nat} (h:a<65536 ^ n):tp a n=0:=Nat.div_eq_of_lt h
theorem tp_zero (a:Nat):tp a 0=a:=by unfold tp;rw [Nat.pow_zero,Nat.div_one]
theorem tp_le (a k:Nat):tp a k≤a:=Nat.div_le_self _ _
theorem RA.cells {w:World} {A:Option Addr} {n c v:Nat} (h:RA w A n c v) (hn:n≠0):∃ b o,A=some ⟨b,o,none⟩∧b<w.heap.size∧∀ j,j<n→w.cell? ⟨b,o+j,none⟩=some (.int .i64 ((dg v j:Nat):Int)):=by
 obtain ⟨hs,h1,h2,h3,h4⟩:=h;obtain ⟨b,o,e,hb,hc⟩:=h1.2 hn;refine ⟨b,o,e,hb,fun j hj=>?_⟩;rw [hc j hj,vh_get h2,h3]
 rfl
theorem small_ra (A:Option Addr) (n c a:Nat) (w:World) (h:RA w A n c a) (hn:n≤3) :
  Calls Tryz.prog 214 #[.slice A n c] w fun e w'=>e=.returned (.int .i64 (a:Int))∧w'=w:=by
 have HX:=Hj h;have ha:a<281474976710656:=Nat.lt_of_lt_of_le h.lt (Nat.pow_le_pow_right (by decide) hn);clear h;go_enter Tryz.func214,Tryz.ntmps214
 go_wp2_with fail
 go_loopw [3,4] (fun t3 t4 wr=>∃ k:Nat,k≤n∧t4=.int .i64 ((k:Int)-1)∧t3=.int .i64 ((tp a k:Nat):Int)∧Hid (wr=w)) (fun _ t4 _=>(intOf t4+1).toNat)
 case atStart=>exact ⟨n,Nat.le_refl _,by first|rfl|go_num,by rw [tp_top HX.out.lt];rfl,by first|exact Hj rfl|exact Hj trivial⟩
 case round =>
  obtain ⟨k,hk,rfl,rfl,hW⟩:=hrel;obtain rfl:=hW.out;by_cases h0:k=0
  ·subst h0;rw [tp_zero];go_wp2;go_ret;exact ⟨rfl,rfl⟩
  ·obtain ⟨j,rfl⟩:∃ j,k=j+1:=⟨k-1,by omega⟩;obtain ⟨b,o,rfl,hb,hc⟩:=HX.out.cells (by omega);have cj:=hc j (by omega);have hs:=tp_step a j;have l1:=dg_lt a j;have l2:=tp_le a j;have ej:(((j+1:Nat):Int)-1)=(j:Int):=by omega
   simp only [ej];generalize tp a (j+1)=x at *;generalize dg a j=y at *;generalize hz:tp a j=z at *;have HZ:=Hj hz;clear hz;obtain ⟨p,hp⟩:∃ p:Nat,p=x*65536:=⟨_,rfl⟩;have e1:IntKind.i64.wrap ((x:Int)*65536)=(p:Int):=by rw [hp];exact IntWalk.i64_in _ (by omega)
   have f1:wrap64 ((x:Int)*65536)=(p:Int):=by rw [w64_in _ (by omega)];omega
   have e2:IntKind.i64.wrap ((p:Int)+(y:Int))=(z:Int):=by rw [IntWalk.i64_in _ (by omega)];omega
   have f2:wrap64 ((p:Int)+(y:Int))=(z:Int):=by rw [w64_in _ (by omega)];omega
   have j1:(0:Int)≤(j:Int):=by omega
   have j2:(j:Int)<(n:Int):=by omega
   clear hc hs hp;go_wp2;go_roundw
   case rel=>exact ⟨j,by omega,by first|rfl|go_num,by rw [HZ.out],by first|exact Hj rfl|exact Hj trivial⟩
   case measure=>simp [intOf]
theorem w_of {z:Int} {k:Nat} (hz:z=k) (hk:k≤281474976710656):IntKind.i64.wrap z=(k:Int)∧wrap64 z=(k:Int):=by
 subst hz;exact ⟨IntWalk.i64_in _ (by omega),w64_in _ (by omega)⟩
theorem lit3 (w:World) (r0 r1 r2:Int):IsAt (w.alloc (.cells #[.int .i64 r0,.int .i64 r1,.int .i64 r2] 3)) (some ⟨w.heap.size,0,none⟩) 3 [r0,r1,r2]:=by
 have hB:=Blk.new w 3 #[.int .i64 r0,.int .i64 r1,.int .i64 r2];refine ⟨rfl,fun _=>⟨w.heap.size,0,rfl,hB.lt,fun j hj=>?_⟩⟩;rw [Nat.zero_add,hB.cell];obtain rfl|rfl|rfl:j=0∨j=1∨j=2:=by omega
 all_goals rfl
theorem wr_nat {x:Nat} (h:x≤281474976710656):IntKind.i64.wrap (x:Int)=(x:Int)∧wrap64 (x:Int)=(x:Int):=⟨IntWalk.i64_in _ (by omega),w64_in _ (by omega)⟩
theorem back_ra (v:Nat) (w:World) (hv:v<281474976710656) :
  Calls Tryz.prog 213 #[.int .i64 (v:Int)] w (RetH w v):=by
 have hq:v / 65536<4294967296:=by omega
 have e1:=tmod_dg v;have e2:=tdiv_dg v;have e1':(v:Int) % 65536=((v % 65536:Nat):Int):=by simp
 have e2':(v:Int) / 65536=((v / 65536:Nat):Int):=by simp
 have hR:vh [((v % 65536:Nat):Int),((v / 65536 % 65536:Nat):Int),((v / 65536 / 65536:Nat):Int)]=v∧Dg [((v % 65536:Nat):Int),((v / 65536 % 65536:Nat):Int),((v / 65536 / 65536:Nat):Int)] :=
  ⟨by simp only [vh,Int.toNat_natCast];omega,Dg.cons (by omega) (by omega) (Dg.cons (by omega) (by omega) (Dg.cons (by omega) (by omega) Dg.nil))⟩
 have e3:=tmod_dg (v / 65536);have e4:=tdiv_dg (v / 65536);have e3':((v / 65536:Nat):Int) % 65536=((v / 65536 % 65536:Nat):Int):=by simp
 have e4':((v / 65536:Nat):Int) / 65536=((v / 65536 / 65536:Nat):Int):=by simp
 obtain ⟨w1,u1⟩:=wr_nat (Nat.le_trans (Nat.mod_le v 65536) (Nat.le_of_lt hv));obtain ⟨w2,u2⟩:=wr_nat (Nat.le_trans (Nat.div_le_self v 65536) (Nat.le_of_lt hv));obtain ⟨w3,u3⟩:=wr_nat (Nat.le_trans (Nat.mod_le (v / 65536) 65536) (Nat.le_trans (Nat.div_le_self v 65536) (Nat.le_of_lt hv)));obtain ⟨w4,u4⟩:=wr_nat (Nat.le_trans (Nat.div_le_self (v / 65536) 65536) (Nat.le_trans (Nat.div_le_self v 65536) (Nat.le_of_lt hv)));generalize v % 65536=r0 at *;generalize v / 65536 % 65536=r1 at *;generalize v / 65536 / 65536=r2 at *;generalize v / 65536=q1 at *;have hI:RA (w.alloc (.cells #[.int .i64 (r0:Int),.int .i64 (r1:Int),.int .i64 (r2:Int)] 3)) (some ⟨w.heap.size,0,none⟩) 3 3 v:=⟨[(r0:Int),(r1:Int),(r2:Int)],lit3 w _ _ _,hR.2,hR.1,Nat.le_refl _⟩;have T:=Hj (trim_ra (some ⟨w.heap.size,0,none⟩) 3 3 v _ hI (by omega));have HB:=Hj ((Below.refl w.heap.size w).alloc (Nat.le_refl _) (.cells #[.int .i64 (r0:Int),.int .i64 (r1:Int),.int .i64 (r2:Int)] 3));have hv1:(0:Int)≤(v:Int):=Int.natCast_nonneg _;have hq1:(0:Int)≤(q1:Int):=Int.natCast_nonneg _;clear hI hR hv hq;go_enter Tryz.func213,Tryz.ntmps213
 go_wp2_with fail
 refine T.out.mono ?_;rintro e w1 ⟨A1,n1,rfl,hI1,rfl⟩;have HI:=Hj hI1;clear hI1;go_wp2;go_ret;exact ⟨A1,n1,3,rfl,HI.out,HB.out⟩
theorem Own.lit {base:Nat} (w:World) (x:Int) (e:TypeId) (hb:base≤w.heap.size):Own base e 1 (w.alloc (.cells #[.int .i64 x] e)) (some ⟨w.heap.size,0,none⟩) 1 1 [.int .i64 x] :=
 ⟨rfl,Or.inr ⟨w.heap.size,1,#[.int .i64 x],rfl,hb,heap_alloc_new w _,Nat.le_refl _,by decide,rfl,rfl⟩⟩
theorem RA.srcOf {w:World} {A:Option Addr} {n c v:Nat} (h:RA w A n c v):∃ hs,SrcAt w A n 1 (hs.map (Value.int .i64))∧Dg hs∧vh hs=v∧hs.length=n:=by
 obtain ⟨hs,h1,h2,h3,h4⟩:=h;exact ⟨hs,h1.src,h2,h3,h1.1⟩
theorem Own.front {base:Nat} {e:TypeId} {w:World} {A:Option Addr} {n c x v:Nat} {hs:List Int} (h:Own base e 1 w A (1+n) c ([.int .i64 (x:Int)] ++ hs.map (Value.int .i64))) (hd:Dg hs) (hv:vh hs=v) (hx:x<65536):RA w A (1+n) c (x+65536*v):=by
 have h2:Own base e 1 w A (1+n) c (((x:Int) :: hs).map (Value.int .i64)):=h;have:=h2.ra (Dg.cons (by omega) (by omega) hd)
 rwa [vh_cons,Int.toNat_natCast,hv] at this
def DRow (w:World) (g:Nat) (xs:List Int):Prop:=Blk w g 3 (xs.map (Value.int .i64)).toArray
theorem DRow.cell {w:World} {g:Nat} {xs:List Int} (h:DRow w g xs) {i:Nat} (hi:i<xs.length):w.cell? ⟨g,i,none⟩=some (.int .i64 (xs[i]?.getD 0)):=by
 rw [Blk.cell h i];simp [hi]
theorem DRow.frozen {w:World} {g:Nat} {xs:List Int} (h:DRow w g xs) (i:Nat):w.frozen? ⟨g,i,none⟩=false:=Blk.frozen h i
theorem DRow.set {w:World} {g:Nat} {xs:List Int} (h:DRow w g xs) (i:Nat) (v:Int):DRow (w.setCell ⟨g,i,none⟩ (.int .i64 v)) g (xs.set i v):=by
 have:=Blk.set h i (.int .i64 v);unfold DRow;simpa [List.map_set] using this
theorem DRow.kp {w w':World} {g:Nat} {xs:List Int} (h:DRow w g xs) (hb:Kp w w'):DRow w' g xs:=Blk.below h hb (Blk.lt h)
theorem DRow.at {w:World} {g:Nat} {xs:List Int} {n:Nat} (h:DRow w g xs) (hl:xs.length=n):IsAt w (some ⟨g,0,none⟩) n xs :=
 ⟨hl,fun _=>⟨g,0,rfl,Blk.lt h,fun j hj=>by rw [Nat.zero_add];exact h.cell (by omega)⟩⟩
theorem DRow.start (w:World) (n:Nat):DRow (w.alloc (.cells (Array.replicate n (.int .i64 0)) 3)) w.heap.size (List.replicate n 0):=by
 unfold DRow;have:=Blk.new w 3 (Array.replicate n (.int .i64 0));simpa using this
theorem run_make_q (k:Nat) (hk:k≤20000000000) (w:World) :
  (Instr.makeSlice 199 (.int .i64 (k:Int)) (.int .i64 (k:Int))).run Tryz.prog w=.ok (.slice (some ⟨w.heap.size,0,none⟩) k k) (w.alloc (.cells ((List.replicate k (0:Int)).map (Value.int .i64)).toArray 3)):=by
 obtain ⟨i0,hi,hz0,hz1,hz2⟩:=info_parts (show (Tryz.prog.info? 3).map (fun i=>(i.zero,i.size,i.bytes))=some (some (.int .i64 0),1,8) by kernel_rfl);have h:=run_make (P:=Tryz.prog) w 199 3 i0 _ Tryz.underlying199 hi hz0 .i64 .i64 k k (by omega) (Int.le_refl _) (by rw [hz2];omega) (by omega);rw [h,hz1];simp only [Int.toNat_natCast,Value.cells,Nat.mul_one];rw [made_ints]
def RetHH (w:World) (q r:Nat) (e:Ending) (w':World):Prop:=∃ A1 n1 c1 A2 n2 c2,e=.returned (.tuple #[.slice A1 n1 c1,.slice A2 n2 c2])∧HA w' A1 n1 c1 q∧HA w' A2 n2 c2 r∧Below w.heap.size w w'
theorem QuoI.ra {v n g:Nat} {hs:List Int} {w:World} (h:QuoI v n 0 hs) (hr:DRow w g hs) (hv:v<65536 ^ n):RA w (some ⟨g,0,none⟩) n n v:=by
 obtain ⟨h1,h2⟩:=h.done hv;exact ⟨hs,hr.at h.1,h1,h2,Nat.le_refl _⟩
theorem HA.lt_of_len {w w':World} {A B:Option Addr} {n c m d a b:Nat} (h:HA w A n c a) (h':HA w' B m d b) (hlt:n<m):a<b:=by
 rcases Nat.lt_or_ge a b with h1|h1
 ·exact h1
 ·have:=hd_len_mono h1;rw [← h.1,← h'.1] at this;omega
theorem lit1 (w:World) (r0:Int):IsAt (w.alloc (.cells #[.int .i64 r0] 3)) (some ⟨w.heap.size,0,none⟩) 1 [r0]:=by
 have hB:=Blk.new w 3 #[.int .i64 r0];refine ⟨rfl,fun _=>⟨w.heap.size,0,rfl,hB.lt,fun j hj=>?_⟩⟩;rw [Nat.zero_add,hB.cell];obtain rfl:j=0:=by omega
 rfl
theorem lit1_ra (w:World) {r:Nat} (h:r<65536):RA (w.alloc (.cells #[.int .i64 (r:Int)] 3)) (some ⟨w.heap.size,0,none⟩) 1 1 r :=
 ⟨[(r:Int)],lit1 w _,Dg.cons (by omega) (by omega) Dg.nil,by simp [vh],Nat.le_refl _⟩
theorem div_small (A B:Option Addr) (n c m d a b:Nat) (w:World) (h:RA w A n c a) (h':RA w B m d b) (hb0:0<b) (hn:n≤3) (hm:m≤3) :
  Calls Tryz.prog 210 #[.slice A n c,.slice B m d] w (RetHH w (a / b) (a % b)):=by
 have ha:a<281474976710656:=Nat.lt_of_lt_of_le h.lt (Nat.pow_le_pow_right (by decide) hn);have hb:b<281474976710656:=Nat.lt_of_lt_of_le h'.lt (Nat.pow_le_pow_right (by decide) hm);have d1:decide ((n:Int)≤3)=true:=decide_eq_true (by omega);have d2:decide ((m:Int)≤3)=true:=decide_eq_true (by omega);have d3:decide (n≤3)=true:=decide_eq_true (by omega);have d4:decide (m≤3)=true:=decide_eq_true (by omega);have S1:=Hj (fun W (hW:Below w.heap.size w W)=>small_ra A n c a W (h.below hW) hn);have S2:=Hj (fun W (hW:Below w.heap.size w W)=>small_ra B m d b W (h'.below hW) hm);have hq:(a:Int).tdiv b=((a / b:Nat):Int):=by rw [Int.tdiv_eq_ediv_of_nonneg (Int.natCast_nonneg _)];simp
 have hq':(a:Int) / b=((a / b:Nat):Int):=by simp
 have hr:(a:Int).tmod b=((a % b:Nat):Int):=by rw [Int.tmod_eq_emod_of_nonneg (Int.natCast_nonneg _)];simp
 have hr':(a:Int) % b=((a % b:Nat):Int):=by simp
 have hxy:a / b≤a:=Nat.div_le_self _ _;have hxm:a % b≤a:=Nat.mod_le _ _;have hyz:((b:Int)=0)=False:=by simp;omega
 have hyn:(b=0)=False:=by simp;omega
 have B1:=Hj (fun W=>back_ra (a / b) W (Nat.lt_of_le_of_lt hxy ha));have B2:=Hj (fun W=>back_ra (a % b) W (Nat.lt_of_le_of_lt hxm ha));obtain ⟨w1,u1⟩:=wr_nat (Nat.le_of_lt (Nat.lt_of_le_of_lt hxy ha));obtain ⟨w2,u2⟩:=wr_nat (Nat.le_of_lt (Nat.lt_of_le_of_lt hxm ha));generalize a / b=q at *;generalize a % b=r at *;have x1:(0:Int)≤(a:Int):=Int.natCast_nonneg _;have y1:(0:Int)<(b:Int):=Int.natCast_pos.2 hb0;have y2:(b:Int)≠0:=by simp at hyz;exact fun e=>hyz (by exact_mod_cast e)
 clear h h' hxy hxm hn hm ha hb;go_enter Tryz.func210,Tryz.ntmps210
 go_wp2_with fail
 refine (S1.out _ (Below.refl _ _)).mono ?_;rintro e w1 ⟨rfl,rfl⟩
 go_wp2_with fail
 refine (S2.out _ (Below.refl _ _)).mono ?_;rintro e w1 ⟨rfl,rfl⟩
 go_wp2_with fail
 refine (B1.out _).mono ?_;rintro e w2 ⟨A1,n1,c1,rfl,h1,hb2⟩;have H1:=Hj h1;have HB2:=Hj hb2;clear h1 hb2
 go_wp2_with fail
 refine (S1.out _ HB2.out).mono ?_;rintro e w3 ⟨rfl,rfl⟩
 go_wp2_with fail
 refine (S2.out _ HB2.out).mono ?_;rintro e w3 ⟨rfl,rfl⟩
 go_wp2_with fail
 refine (B2.out _).mono ?_;rintro e w3 ⟨A2,n2,c2,rfl,h2,hb3⟩;have H2:=Hj h2;have H1:=Hj (H1.out.below hb3);have HB3:=Hj (HB2.out.trans (hb3.mono HB2.out.size));clear h2 hb3;go_wp2;go_ret2;exact ⟨A1,n1,c1,A2,n2,c2,rfl,H1.out,H2.out,HB3.out⟩
theorem div_digit (A B:Option Addr) (n c d a b:Nat) (w:World) (h:RA w A n c a) (h':RA w B 1 d b) (hb0:0<b) (hn3:3<n) (hn:n≤12000000000) :
  Calls Tryz.prog 210 #[.slice A n c,.slice B 1 d] w (RetHH w (a / b) (a % b)):=by
 have hb:b<65536:=by have:=h'.lt;simpa using this
 obtain ⟨bb,ob,hBe,hbb,hcb⟩:=h'.cells (by omega);have cb:=hcb 0 (by omega);have edb:dg b 0=b:=by unfold dg;simp;omega
 rw [edb,Nat.add_zero] at cb;subst hBe;have HX:=Hj h;have HC:=Hj cb;have HBB:=Hj hbb;have HAL:=Hj h.lt;have d1:decide ((n:Int)≤3)=false:=decide_eq_false (by omega);have d2:decide (n≤3)=false:=decide_eq_false (by omega);clear h h' hcb edb cb hbb;have hmk:=fun w=>run_make_q n (by omega) w;go_enter Tryz.func210,Tryz.ntmps210
 go_wp2_with fail
 have hrow:=DRow.start w n;have hbel:Below w.heap.size w (w.alloc (.cells (Array.replicate n (.int .i64 0)) 3)):=(Below.refl _ _).alloc (Nat.le_refl _) _;generalize w.alloc (.cells (Array.replicate n (.int .i64 0)) 3)=W at *;have HROW:=Hj hrow;have HBEL:=Hj hbel;clear hrow hbel hmk d1 d2
 go_loopw [7,8] (fun t7 t8 wr=>∃ (t:Nat) (hs:List Int),t≤n∧t8=.int .i64 ((t:Int)-1)∧t7=.int .i64 ((rst a b t:Nat):Int)∧Hid (Below w.heap.size w wr∧DRow wr w.heap.size hs∧QuoI (a / b) n t hs)) (fun _ t8 _=>(intOf t8+1).toNat)
 case atStart=>exact ⟨n,List.replicate n 0,Nat.le_refl _,by first|rfl|go_num,by rw [rst_top HAL.out];rfl,HBEL.out,HROW.out,QuoI.start _ _⟩
 case round =>
  clear HROW HBEL;obtain ⟨t,hs,ht,rfl,rfl,hR⟩:=hrel;by_cases h0:t=0
  ·subst h0;obtain ⟨hB,hro,hq⟩:=hR.out;have hra:=hq.ra hro (Nat.lt_of_le_of_lt (Nat.div_le_self _ _) HAL.out);rw [rst_zero];have hml:a % b<65536:=Nat.lt_trans (Nat.mod_lt _ hb0) hb;have T:=Hj (trim_ra _ n n (a / b) wr hra (by omega));have k1:=(Kp.refl wr).alloc (.cells #[.int .i64 ((a % b:Nat):Int)] 3);have T2:=Hj (trim_ra _ 1 1 (a % b) _ (lit1_ra wr hml) (by omega));have HB:=Hj (hB.trans (Below.mono k1 hB.size));have HK1:=Hj k1;generalize a % b=r at *;clear hB hra hR hq hro k1 hml
   go_wp2_with fail
   refine T.out.mono ?_;rintro e w1 ⟨A1,n1,rfl,h1,rfl⟩;have H1:=Hj (h1.below HK1.out);clear h1
   go_wp2_with fail
   refine T2.out.mono ?_;rintro e w2 ⟨A2,n2,rfl,h2,rfl⟩;have H2:=Hj h2;clear h2;go_wp2;go_ret2;exact ⟨A1,n1,n,A2,n2,1,rfl,H1.out,H2.out,HB.out⟩
  ·obtain ⟨j,rfl⟩:∃ j,t=j+1:=⟨t-1,by omega⟩;obtain ⟨ba,oa,hAe,hba,hca⟩:=HX.out.cells (by omega);have cj0:=hca j (by omega);subst hAe;have ej:(((j+1:Nat):Int)-1)=(j:Int):=by omega
   simp only [ej];have j1:(0:Int)≤(j:Int):=by omega
   have j2:(j:Int)<(n:Int):=by omega
   obtain ⟨hB,hro,hq⟩:=hR.out;have cj:=(hB.cell (p:=⟨ba,oa+j,none⟩) hba).trans cj0;have cb:=(hB.cell (p:=⟨bb,ob,none⟩) HBB.out).trans HC.out;have cq:=hro.cell (i:=j) (by rw [hq.1];omega);have fq:=hro.frozen j;have hyz:((b:Int)=0)=False:=by simp;omega
   have hyn:(b=0)=False:=by simp;omega
   have y1:(0:Int)<(b:Int):=Int.natCast_pos.2 hb0;have hjn:j<n:=by omega
   have l1:=rst_lt a b (j+1) hb0;have l2:=dg_lt a j;obtain ⟨p,hp⟩:∃ p:Nat,p=rst a b (j+1)*65536:=⟨_,rfl⟩;obtain ⟨u,hu⟩:∃ u:Nat,u=p+dg a j:=⟨_,rfl⟩;have hul:u≤281474976710656:=by omega
   have e1:IntKind.i64.wrap (((rst a b (j+1):Nat):Int)*65536)=(p:Int):=by rw [hp];exact IntWalk.i64_in _ (by omega)
   have f1:wrap64 (((rst a b (j+1):Nat):Int)*65536)=(p:Int):=by rw [w64_in _ (by omega)];omega
   have e2:IntKind.i64.wrap ((p:Int)+((dg a j:Nat):Int))=(u:Int):=by rw [IntWalk.i64_in _ (by omega)];omega
   have f2:wrap64 ((p:Int)+((dg a j:Nat):Int))=(u:Int):=by rw [w64_in _ (by omega)];omega
   obtain ⟨hs1,hs2⟩:=rst_step a b j hb0;rw [← hp,← hu] at hs1 hs2;have g1:(u:Int).tdiv b=((dg (a / b) j:Nat):Int):=by rw [Int.tdiv_eq_ediv_of_nonneg (Int.natCast_nonneg _),← hs1];simp
   have g1':(u:Int) / b=((dg (a / b) j:Nat):Int):=by rw [← hs1];simp
   have g2:(u:Int).tmod b=((rst a b j:Nat):Int):=by rw [Int.tmod_eq_emod_of_nonneg (Int.natCast_nonneg _),← hs2];simp
   have g2':(u:Int) % b=((rst a b j:Nat):Int):=by rw [← hs2];simp
   obtain ⟨w1,u1⟩:=wr_nat (Nat.le_trans (Nat.le_of_lt (dg_lt (a / b) j)) (by decide));obtain ⟨w2,u2⟩:=wr_nat (Nat.le_trans (Nat.le_of_lt (rst_lt a b j hb0)) (Nat.le_trans (Nat.le_of_lt hb) (by decide)));have x1:(0:Int)≤(u:Int):=Int.natCast_nonneg _;have HF:=Hj (show Below w.heap.size w (wr.setCell ⟨w.heap.size,j,none⟩ (.int .i64 ((dg (a / b) j:Nat):Int)))∧DRow (wr.setCell ⟨w.heap.size,j,none⟩ (.int .i64 ((dg (a / b) j:Nat):Int))) w.heap.size (hs.set j ((dg (a / b) j:Nat):Int))∧QuoI (a / b) n j (hs.set j ((dg (a / b) j:Nat):Int)) from ⟨hB.setCell (p:=⟨w.heap.size,j,none⟩) (Nat.le_refl _) _,hro.set j _,hq.step hjn rfl⟩);generalize dg a j=da at *;generalize dg (a / b) j=qd at *;generalize rst a b (j+1)=r0 at *;generalize hr1:rst a b j=r1 at *;have HR1:=Hj hr1;clear hr1;generalize hs[j]?.getD 0=old at *;clear hs1 hs2 hu hp hca cj0 hB hro hq hR l1 l2 hul HX HC;have hne:bb≠w.heap.size:=Nat.ne_of_lt HBB.out;have cb2:=(World.cell?_setCell_other wr ⟨w.heap.size,j,none⟩ ⟨bb,ob,none⟩ (.int .i64 (qd:Int)) (fun e=>hne (by first|exact congrArg Addr.block e|exact (congrArg Addr.block e).symm))).trans cb;go_wp2
   go_region_with (fail)
   all_goals
    go_wp2;go_roundw
    case rel=>exact ⟨j,_,by omega,by first|rfl|go_num,by rw [HR1.out],by first|exact Hj HF.out|exact Hj ⟨HF.out.1.drew,HF.out.2.1,HF.out.2.2⟩⟩
    case measure=>simp [intOf]
end Go.Proofs.YtjajigkacccdgaaGreat
