/-
Lemmas of the walk; no further conditions.
-/
import Derived.Test.YtjajigkacccdgaaGreatTiAI
import Derived.BigQuiet
import Derived.Shelf.Small.Bits
import Derived.Test.YtjajigkacccdgaaGreatProg
set_option linter.unusedVariables false
set_option linter.unusedSimpArgs false
set_option maxRecDepth 100000
set_option maxHeartbeats 16000000
namespace Go.Proofs.YtjajigkacccdgaaGreat
open Go.RowKit
open Wd
theorem estimate_any (A A':Option Addr) (n m c c':Nat) (u v:List Nat) (w:World) (h:Wat w A (n+1) u) (h':Wat w A' n v) (hn:n=m+2) (hn0:n≤20000000000) (hf:2147483648≤v[m+1]?.getD 0) (hlt:val u<4294967296*val v) :
  Calls Tryz.prog 224 #[.slice A (n+1) c,.slice A' n c'] w fun e w'=>∃ g,e=.returned (.int .u64 ((g:Nat):Int))∧val u / val v≤g∧g≤val u / val v+1∧g≤4294967296∧Below w.heap.size w w':=by
 have hE:=esF_of h.2.1 h'.2.1 (by have:=h.1;omega) (by have:=h'.1;omega) hf hlt;have hfB:=h'.2.1.get (m+1);have hs:=h'.2.1.get m;have hun:=h.2.1.get (m+2);have hu1:=h.2.1.get (m+1);have hu0:=h.2.1.get m;obtain ⟨b,o,rfl,hb,hc⟩:=h.2.2 (by omega);obtain ⟨b',o',rfl,hb',hc'⟩:=h'.2.2 (by omega);have a2:=hc n (by omega);have a1:=hc (m+1) (by omega);have a0:=hc m (by omega);have b1:=hc' (m+1) (by omega);have b0:=hc' m (by omega);rw [hn] at a2;rw [← hn] at a2;have e2:u[n]?.getD 0=u[m+2]?.getD 0:=by rw [hn]
 rw [e2] at a2;obtain ⟨n1,hn1⟩:∃ k,k=m+1:=⟨_,rfl⟩;have wn1:IntKind.i64.wrap ((n:Int)-1)=(n1:Int):=by rw [IntWalk.i64_in _ (by omega)];omega
 have wn2:IntKind.i64.wrap ((n:Int)-2)=(m:Int):=by rw [IntWalk.i64_in _ (by omega)];omega
 have i1:(0:Int)≤(n:Int):=by omega
 have i2:(n:Int)<(n:Int)+1:=by omega
 have i3:(0:Int)≤(n1:Int):=by omega
 have i4:(n1:Int)<(n:Int)+1:=by omega
 have i5:(n1:Int)<(n:Int):=by omega
 have i6:(0:Int)≤(m:Int):=by omega
 have i7:(m:Int)<(n:Int)+1:=by omega
 have i8:(m:Int)<(n:Int):=by omega
 rw [← hn1] at a1 b1 hE hf hfB;have hor:=or_words (u[m+2]?.getD 0) (u[n1]?.getD 0) hun (by rw [hn1];exact hu1);have wun:IntKind.u64.wrap ((u[m+2]?.getD 0:Nat):Int)=((u[m+2]?.getD 0:Nat):Int):=by rw [IntKind.wrap_u64];omega
 have wunB:IntKind.u64.wrap (((u[m+2]?.getD 0:Nat):Int)*4294967296)=((u[m+2]?.getD 0:Nat):Int)*4294967296:=by rw [IntKind.wrap_u64];omega
 have wu1:IntKind.u64.wrap ((u[n1]?.getD 0:Nat):Int)=((u[n1]?.getD 0:Nat):Int):=by rw [hn1,IntKind.wrap_u64];omega
 have wu0:IntKind.u64.wrap ((u[m]?.getD 0:Nat):Int)=((u[m]?.getD 0:Nat):Int):=by rw [IntKind.wrap_u64];omega
 have wf:IntKind.u64.wrap ((v[n1]?.getD 0:Nat):Int)=((v[n1]?.getD 0:Nat):Int):=by rw [IntKind.wrap_u64];omega
 have ws:IntKind.u64.wrap ((v[m]?.getD 0:Nat):Int)=((v[m]?.getD 0:Nat):Int):=by rw [IntKind.wrap_u64];omega
 have hu1':u[n1]?.getD 0<4294967296:=by rw [hn1];exact hu1
 have htB:u[m+2]?.getD 0*4294967296+u[n1]?.getD 0<18446744073709551616:=by omega
 generalize u[m+2]?.getD 0=un at *;generalize u[n1]?.getD 0=u1 at *;generalize u[m]?.getD 0=u0 at *;generalize v[n1]?.getD 0=f at *;generalize v[m]?.getD 0=s at *;generalize un*4294967296+u1=t at *;have hst:=hE.start hfB;have hy0:((f:Int) == 0)=false:=by simp;omega
 have hy1:¬ f=0:=by omega
 have q1:IntKind.u64.wrap ((t:Int).tdiv (f:Int))=((t / f:Nat):Int):=by
  rw [IntWalk.u64_quo _ _ ⟨by omega,by omega,by omega⟩];rfl
 have q2:((t:Int).tmod (f:Int))=((t % f:Nat):Int):=by
  rw [IntWalk.rem_in _ _ (by omega)];rfl
 have q1':IntKind.u64.wrap ((t:Int) / (f:Int))=((t / f:Nat):Int):=by
  have e:((t:Int) / (f:Int))=((t / f:Nat):Int):=rfl;have:=Nat.lt_of_le_of_lt (Nat.div_le_self t f) htB;rw [e,IntKind.wrap_u64];generalize t / f=q at *;clear q1;omega
 have q2':((t:Int) % (f:Int))=((t % f:Nat):Int):=rfl;have HE:=Hj hE;have HST:=Hj hst;have HB:=Hj (And.intro hfB (And.intro hs hu0));generalize t / f=g0 at *;generalize t % f=r0 at *;clear hE hst hfB hs hun hu1 hu0 hu1' htB hc hc' hb hb' hf hlt h h' hn hn0 hn1 e2;go_enter Tryz.func224,Tryz.ntmps224;go_wp2
 go_quiet (fail)
 have HB1:=Hj (belowN w nq);replace a0:(w.drewN nq).cell? ⟨b,o+m,none⟩=_:=a0;replace b1:(w.drewN nq).cell? ⟨b',o'+n1,none⟩=_:=b1;replace b0:(w.drewN nq).cell? ⟨b',o'+m,none⟩=_:=b0;clear a1 a2;generalize w.drewN nq=w1 at *;go_wp2
 go_quiet (fail)
 have HB2:=Hj (HB1.out.trans ((belowN w1 nq).mono HB1.out.size));replace a0:(w1.drewN nq).cell? ⟨b,o+m,none⟩=_:=a0;clear b0 b1 HB1;generalize w1.drewN nq=w2 at *;go_wp2
 go_quiet (fail)
 have HB3:=Hj (HB2.out.trans ((belowN w2 nq).mono HB2.out.size));replace a0:(w2.drewN nq).cell? ⟨b,o+m,none⟩=_:=a0;clear HB2;generalize w2.drewN nq=w3 at *;clear q1 q1' q2 q2' hor wun wunB wu1 wf ws;go_wp2
 go_loopw [9,10] (fun t9 t10 wr=>∃ g r:Nat,t9=.int .u64 (g:Int)∧t10=.int .u64 (r:Int)∧wr=w3∧Hid (EsI f s t u0 (val u / val v) g r)) (fun t9 _ _=>(intOf t9).toNat)
 case atStart=>exact ⟨g0,r0,rfl,rfl,rfl,HST.out⟩
 case round =>
  clear HST;obtain ⟨g,r,rfl,rfl,rfl,hR⟩:=hrel;obtain ⟨r1,r2,r3,r4⟩:=hR.out;obtain ⟨hfB,hs,hu0⟩:=HB.out;have wg:IntKind.u64.wrap ((g:Int)-1)=(g:Int)-1∨g=0:=by
   by_cases hg:g=0
   ·exact Or.inr hg
   ·left;rw [IntKind.wrap_u64];omega
  clear wg;by_cases hbig:4294967296≤g
  ·have hQ:=HE.out.big hbig;obtain ⟨m1,m2,m3,m4⟩:=hR.out.more hQ;have hQ2:(g:Int) / 4294967296≠0:=by omega
   have wg:IntKind.u64.wrap ((g:Int)-1)=((g-1:Nat):Int):=by rw [IntKind.wrap_u64];omega
   have wrf:IntKind.u64.wrap ((r:Int)+(f:Int))=((r+f:Nat):Int):=by rw [IntKind.wrap_u64];omega
   have HM:=Hj (And.intro m1 (And.intro m2 (And.intro m3 m4)));clear hR r1 r2 r3 r4 hfB hs hu0 m1 m2 m3 m4 hbig hQ;go_wp2
   ·have hb9:(((r:Int)+(f:Int)) / 4294967296 != 0)=true:=by assumption
    have hb8:¬ ((r:Int)+(f:Int)) / 4294967296=0:=by simpa using hb9
    have hdn:=HE.out.brk HM.out.2.1 (by omega) HM.out.2.2.1;go_ret;exact ⟨g-1,rfl,HM.out.1,hdn,HM.out.2.2.1,HB3.out⟩
   ·have hb9:(((r:Int)+(f:Int)) / 4294967296 != 0)=false:=by assumption
    have hb8:((r:Int)+(f:Int)) / 4294967296=0:=by simpa using hb9
    go_roundw
    case rel=>exact ⟨g-1,r+f,rfl,rfl,trivial,Hj ⟨HM.out.1,HM.out.2.1,by have:=HM.out.2.2.1;omega,by omega⟩⟩
    case measure=>simp [intOf];have:=HM.out.2.2.2;omega
  ·have hQ2:(g:Int) / 4294967296=0:=by omega
   have hgs:g*s≤4294967295*4294967295:=Nat.mul_le_mul (by omega) (by omega);have egs:(g:Int)*(s:Int)=((g*s:Nat):Int):=by push_cast;rfl
   have wgs:IntKind.u64.wrap ((g:Int)*(s:Int))=((g*s:Nat):Int):=by rw [egs,IntKind.wrap_u64];omega
   have hor2:=or_words r u0 r4 hu0;have wrB:IntKind.u64.wrap ((r:Int)*4294967296)=(r:Int)*4294967296:=by rw [IntKind.wrap_u64];omega
   by_cases hov:r*4294967296+u0<g*s
   ·have hQ:=HE.out.over hR.out hov;obtain ⟨m1,m2,m3,m4⟩:=hR.out.more hQ;have hov2:((r*4294967296+u0:Nat):Int)<((g*s:Nat):Int):=by omega
    have wg:IntKind.u64.wrap ((g:Int)-1)=((g-1:Nat):Int):=by rw [IntKind.wrap_u64];omega
    have wrf:IntKind.u64.wrap ((r:Int)+(f:Int))=((r+f:Nat):Int):=by rw [IntKind.wrap_u64];omega
    have HM:=Hj (And.intro m1 (And.intro m2 (And.intro m3 m4)));clear hR r1 r2 r3 r4 hfB hs hu0 m1 m2 m3 m4 hbig hQ hgs egs hov;generalize g*s=gs at *;generalize r*4294967296+u0=X at *;go_wp2
    ·have hb9:(((r:Int)+(f:Int)) / 4294967296 != 0)=true:=by assumption
     have hb8:¬ ((r:Int)+(f:Int)) / 4294967296=0:=by simpa using hb9
     have hdn:=HE.out.brk HM.out.2.1 (by omega) HM.out.2.2.1;go_ret;exact ⟨g-1,rfl,HM.out.1,hdn,HM.out.2.2.1,HB3.out⟩
    ·have hb9:(((r:Int)+(f:Int)) / 4294967296 != 0)=false:=by assumption
     have hb8:((r:Int)+(f:Int)) / 4294967296=0:=by simpa using hb9
     go_roundw
     case rel=>exact ⟨g-1,r+f,rfl,rfl,trivial,Hj ⟨HM.out.1,HM.out.2.1,by have:=HM.out.2.2.1;omega,by omega⟩⟩
     case measure=>simp [intOf];have:=HM.out.2.2.2;omega
   ·have hdn:=HE.out.done r2 (by omega) (by omega);have hov2:¬ ((r*4294967296+u0:Nat):Int)<((g*s:Nat):Int):=by omega
    have HM:=Hj (And.intro r1 (And.intro hdn (show g≤4294967296 by omega)));clear hR r1 r2 r3 r4 hfB hs hu0 hbig hgs egs hov hdn;generalize g*s=gs at *;generalize r*4294967296+u0=X at *;go_wp2;go_ret;exact ⟨g,rfl,HM.out.1,HM.out.2.1,HM.out.2.2,HB3.out⟩
end Go.Proofs.YtjajigkacccdgaaGreat
namespace Go.Proofs.YtjajigkacccdgaaGreat
open Go.Shelf
def Tryz.lays128_ren:Go.Shelf.Ren:=⟨fun|128=>167 | n=>n,fun|51=>59 | 3=>3 | 4=>4 | 46=>159 | 5=>5 | 9=>9 | n=>n,fun|n=>n⟩
def Tryz.lays133_ren:Go.Shelf.Ren:=⟨fun|133=>222 | 128=>167 | n=>n,fun|51=>59 | 3=>3 | 4=>4 | 46=>159 | 5=>5 | 9=>9 | n=>n,fun|n=>n⟩
theorem Tryz.lays133:Go.Proofs.Lays.n133 Tryz.prog Tryz.lays133_ren:={
 mixed:=by kernel_rfl
 f128:=Tryz.func167.trans (congrArg some (by kernel_rfl))
 f133:=Tryz.func222.trans (congrArg some (by kernel_rfl))
 t3:=Tryz.underlying3
 a3:=Tryz.isAgg3
 z3:=Tryz.sizeOf3
 v3:=Tryz.zeroValue3
 t4:=Tryz.underlying4
 a4:=Tryz.isAgg4
 z4:=Tryz.sizeOf4
 v4:=Tryz.zeroValue4
 t5:=Tryz.underlying5
 a5:=Tryz.isAgg5
 z5:=Tryz.sizeOf5
 v5:=Tryz.zeroValue5
 t9:=Tryz.underlying9
 a9:=Tryz.isAgg9
 z9:=Tryz.sizeOf9
 v9:=Tryz.zeroValue9
 t46:=Tryz.underlying159
 a46:=Tryz.isAgg159
 z46:=Tryz.sizeOf159
 v46:=Tryz.zeroValue159
 t51:=Tryz.underlying59
 a51:=Tryz.isAgg59
 z51:=Tryz.sizeOf59
 v51:=Tryz.zeroValue59 }
end Go.Proofs.YtjajigkacccdgaaGreat
namespace Go.Proofs.YtjajigkacccdgaaGreat
open Go.RowKit
open Wd
theorem bitLen_spec:∀ n x:Nat,x<2 ^ n→n≤64→x≠0→2 ^ (Lib.bitLen x-1)≤x∧x<2 ^ Lib.bitLen x∧1≤Lib.bitLen x
 | 0,x,h,_,h0=>by simp at h;omega
 | n+1,x,h,hn,h0=>by
  have h64:x<2 ^ 64:=Nat.lt_of_lt_of_le h (Nat.pow_le_pow_right (by decide) hn);rw [Lib.bitLen_half x h0 h64];by_cases h1:x / 2=0
  ·have hb:Lib.bitLen 0=0:=by decide
   rw [h1,hb];refine ⟨by simp;omega,by simp;omega,by omega⟩
  ·rw [Nat.pow_succ] at h;obtain ⟨a,b,c⟩:=bitLen_spec n (x / 2) (by omega) (by omega) h1;obtain ⟨k,hk⟩:∃ k,Lib.bitLen (x / 2)=k+1:=⟨Lib.bitLen (x / 2)-1,by omega⟩;rw [hk] at a b ⊢;rw [Nat.add_sub_cancel] at a;rw [show 1+(k+1)-1=k+1 by omega,show 1+(k+1)=k+1+1 by omega,Nat.pow_succ 2 (k+1),Nat.pow_succ];rw [Nat.pow_succ] at b;refine ⟨by omega,by omega,by omega⟩
theorem lz_any (x:Nat) (w:World) (h0:x≠0) (h1:x<4294967296) :
  Calls Tryz.prog 222 #[.int .u32 (x:Int)] w fun e w'=>∃ s:Nat,e=.returned (.int .i64 (s:Int))∧s<32∧2147483648≤x*2 ^ s∧x*2 ^ s<4294967296∧w'=w:=by
 have T:=Any.bits_LeadingZeros32 Tryz.lays133 (x:Int) w (by omega) (by omega);obtain ⟨a,b,c⟩:=bitLen_spec 32 x (by omega) (by omega) h0;have hle:Lib.bitLen x≤32:=Lib.bitLen_le x 32 (by omega) (by omega);rw [Int.toNat_natCast] at T;generalize Lib.bitLen x=L at *;refine T.mono ?_;rintro e w' ⟨rfl,rfl⟩;obtain ⟨k,rfl⟩:∃ k,L=k+1:=⟨L-1,by omega⟩;rw [Nat.add_sub_cancel] at a;have e1:2 ^ k*2 ^ (32-(k+1))=2 ^ 31:=by rw [← Nat.pow_add];congr 1;omega
 have e2:2 ^ (k+1)*2 ^ (32-(k+1))=2 ^ 32:=by rw [← Nat.pow_add];congr 1;omega
 have hp:0<2 ^ (32-(k+1)):=Nat.pos_of_ne_zero (by simp);have m1:=Nat.mul_le_mul_right (2 ^ (32-(k+1))) a;have m2:=Nat.mul_lt_mul_of_pos_right b hp;rw [e1] at m1;rw [e2] at m2;exact ⟨32-(k+1),by congr 2;omega,by omega,by omega,by omega,rfl⟩
def win (P:List Nat) (k m:Nat) (p:List Nat):List Nat:=P.take k ++ p ++ P.drop (k+m)
theorem win_len {P p:List Nat} {k m:Nat} (hk:k+m≤P.length) (hp:p.length=m):(win P k m p).length=P.length:=by
 unfold win;rw [List.length_append,List.length_append,List.length_take,List.length_drop,hp];omega
theorem win_get {P p:List Nat} {k m i:Nat} (hk:k+m≤P.length) (hp:p.length=m) (hi:i<m):(win P k m p)[k+i]?.getD 0=p[i]?.getD 0:=by
 unfold win;rw [List.append_assoc,List.getElem?_append_right (by rw [List.length_take];omega),List.length_take,Nat.min_eq_left (by omega),Nat.add_sub_cancel_left,List.getElem?_append_left (by omega)]
theorem win_set {P p:List Nat} {k m i d:Nat} (hk:k+m≤P.length) (hp:p.length=m) (hi:i<m):(win P k m p).set (k+i) d=win P k m (p.set i d):=by
 unfold win;rw [List.append_assoc,List.set_append_right _ _ (by rw [List.length_take];omega),List.length_take,Nat.min_eq_left (by omega),Nat.add_sub_cancel_left,List.set_append_left _ _ (by omega),← List.append_assoc]
theorem win_self {P:List Nat} {k m:Nat} (hk:k+m≤P.length):win P k m ((P.drop k).take m)=P:=by
 unfold win;rw [List.append_assoc,← List.drop_drop,List.take_append_drop,List.take_append_drop]
theorem win_ws {P p:List Nat} {k m:Nat} (h:Ws P) (hp:Ws p):Ws (win P k m p):=((h.take k).append hp).append (h.drop _)
theorem win_of_len {P:List Nat} {k m:Nat} (hk:k+m≤P.length):((P.drop k).take m).length=m:=by
 rw [List.length_take,List.length_drop];omega
theorem Bx.put {b:Nat} {w w':World} (h:Bx b w w') {p:Addr} (hp:w.heap.size≤p.block) (v:Value):Bx b w (w'.setCell p v) :=
 ⟨h.os,h.tape,h.output,by rw [World.size_setCell];exact h.size,fun k hk hne=>(Below.heap_setCell _ p v k (by omega)).trans (h.block k hk hne)⟩
theorem less_facts {x t bb:Nat} (hx:x<4294967296) (ht:t<4294967296) (hb:bb≤1):∃ D:Int,IntKind.u64.wrap (IntKind.u64.wrap ((x:Int)-(t:Int))-(bb:Int))=D∧D % 4294967296=((lessW x (t+bb):Nat):Int)∧D / 9223372036854775808=((lessB x (t+bb):Nat):Int):=by
 refine ⟨_,rfl,?_,?_⟩
 ·rw [IntKind.wrap_u64,IntKind.wrap_u64];unfold lessW;split<;>omega
 ·rw [IntKind.wrap_u64,IntKind.wrap_u64];unfold lessB;split<;>omega
def SmS (w:World) (b o N k n f:Nat) (P v:List Nat) (i:Nat) (bb:Nat) (wr:World):Prop :=
 ∃ p cc,SmInv ((P.drop k).take (n+1)) v f i p cc bb∧Rw wr b o N (win P k (n+1) p)∧Blk wr w.heap.size 164 #[.int .u64 (cc:Int)]∧Bx b w wr
theorem subMul_any (b o N k n c c' f:Nat) (A':Option Addr) (P v:List Nat) (w:World) (hP:Rw w b o N P) (hk:k+(n+1)≤N) (h':Wat w A' n v) (hb:∀ b' o',A'=some ⟨b',o',none⟩→b'≠b) (hf:f≤4294967296) (hn:n≤20000000000) :
  Calls Tryz.prog 225 #[.slice (some ⟨b,o+k,none⟩) (n+1) c,.slice A' n c',.int .u64 (f:Int)] w fun e w'=>∃ p cc bb,e=.returned (.bool (((bb:Nat):Int) != 0))∧SmInv ((P.drop k).take (n+1)) v f (n+1) p cc bb∧Rw w' b o N (win P k (n+1) p)∧Bx b w w':=by
 have hkP:k+(n+1)≤P.length:=by rw [hP.1];exact hk
 have HP:=Hj hP;have HV:=Hj h';have HB:=Hj hb;have HF:=Hj hf;have HK:=Hj hkP;have HWL:=Hj (win_of_len hkP);have hWu:Ws ((P.drop k).take (n+1)):=(hP.2.1.drop k).take _;have HWU:=Hj hWu;have hst:SmS w b o N k n f P v 0 0 (w.alloc (.cells #[.int .u64 0] 164)) :=
  ⟨_,0,SmInv.start v f hWu,by rw [win_self hkP];exact hP.below ((Below.refl _ w).alloc (Nat.le_refl _) _) hP.2.2.1,Blk.new w _ _,Bx.of ((Below.refl _ w).alloc (Nat.le_refl _) _)⟩
 have HST:=Hj hst;have HBS:=Hj hP.2.2.1;clear hP h' hb hf hkP hWu hst;go_enter Tryz.func225,Tryz.ntmps225
 go_wp2_with fail
 refine (carrier_any 0 w).mono ?_;rintro e w1 ⟨rfl,rfl⟩
 go_wp2_with fail
 go_loopw [7,15] (fun t7 t wr=>∃ i bb:Nat,i≤n+1∧t=.int .i64 i∧t7=.int .u64 (bb:Int)∧Hid (SmS w b o N k n f P v i bb wr)) (fun _ t _=>n+1-(intOf t).toNat)
 case atStart=>exact ⟨0,0,Nat.zero_le _,rfl,rfl,HST.out⟩
 case round =>
  clear HST;obtain ⟨i,bb,hi,rfl,rfl,hR⟩:=hrel;obtain ⟨wu,rfl⟩:∃ v,v=wr:=⟨_,rfl⟩;obtain ⟨p,cc,s1,s2,s3,s4⟩:=hR.out;have hpl:p.length=n+1:=by rw [s1.len];exact HWL.out
  by_cases hlt:i<n+1
  ·have hvw:=HV.out.2.1;obtain ⟨m1,m2⟩:=s1.step HWU.out hvw HF.out (show i<((P.drop k).take (n+1)).length by rw [HWL.out];exact hlt);have hxi:=HWU.out.get i;have hrd:=s2.2.2.2.1 (k+i) (by omega);rw [win_get HK.out hpl hlt,s1.high i (Nat.le_refl _)] at hrd;have hfz:=s2.2.2.2.2 (k+i) (by omega);have HNX:=Hj (fun W (hW:Blk W w.heap.size 164 #[.int .u64 ((cc:Nat):Int)])=>next_nat w.heap.size (v[i]?.getD 0*f) cc ((v[i]?.getD 0*f:Nat):Int) rfl W hW m1);have htl:(v[i]?.getD 0*f+cc) % 4294967296<4294967296:=Nat.mod_lt _ (by decide);obtain ⟨D,hD,hD1,hD2⟩:=less_facts hxi htl s1.borrow;have hwd:=m2.ws;have hne:w.heap.size≠b:=by have:=HBS.out;omega
   rw [← Nat.add_assoc] at hrd hfz;have hset:=(s2.heap (w':=(wu.setCell ⟨w.heap.size,0,none⟩ (.int .u64 (((v[i]?.getD 0*f+cc) / 4294967296:Nat):Int))).drew) (by show wu.heap.size≤(wu.setCell _ _).heap.size;rw [World.size_setCell];exact Nat.le_refl _) (Below.heap_setCell wu ⟨w.heap.size,0,none⟩ _ b (fun h=>hne h.symm)));have hd':lessW (((P.drop k).take (n+1))[i]?.getD 0) ((v[i]?.getD 0*f+cc) % 4294967296+bb)<4294967296:=by
    have:=s1.borrow;unfold lessW;split<;>omega
   have hc1:=hset.2.2.2.1 (k+i) (by omega);have hc2:=hset.2.2.2.2 (k+i) (by omega);rw [win_get HK.out hpl hlt,s1.high i (Nat.le_refl _),← Nat.add_assoc] at hc1;rw [← Nat.add_assoc] at hc2;have hrw:=hset.set (i:=k+i) (by omega) hd';rw [win_set HK.out hpl hlt,← Nat.add_assoc] at hrw;have hbl:=Blk.far (Blk.drew (Blk.set s3 0 (.int .u64 (((v[i]?.getD 0*f+cc) / 4294967296:Nat):Int)))) (p:=⟨b,o+k+i,none⟩) hne (.int .u32 ((lessW (((P.drop k).take (n+1))[i]?.getD 0) ((v[i]?.getD 0*f+cc) % 4294967296+bb):Nat):Int));have hbx:=((s4.put (p:=⟨w.heap.size,0,none⟩) (Nat.le_refl _) (.int .u64 (((v[i]?.getD 0*f+cc) / 4294967296:Nat):Int))).drew).set (o+k+i) (.int .u32 ((lessW (((P.drop k).take (n+1))[i]?.getD 0) ((v[i]?.getD 0*f+cc) % 4294967296+bb):Nat):Int));have hN:SmS w b o N k n f P v (i+1) (lessB (((P.drop k).take (n+1))[i]?.getD 0) ((v[i]?.getD 0*f+cc) % 4294967296+bb)) _:=⟨_,_,m2,hrw,hbl,hbx⟩;have HN:=Hj hN;have Q3:=Hj (Blk.drew s3);have hpm:v[i]?.getD 0*f<18446744073709551616:=by omega
   have hvi:=hvw.get i;have hzero:¬ i<n→v[i]?.getD 0=0:=fun hh=>by rw [List.getElem?_eq_none (by have:=HV.out.1;omega)];rfl
   have hr0:wu.drew.cell? ⟨b,o+k+i,none⟩=some (.int .u32 ((((P.drop k).take (n+1))[i]?.getD 0:Nat):Int)):=hrd;have wxi:IntKind.u64.wrap ((((P.drop k).take (n+1))[i]?.getD 0:Nat):Int)=((((P.drop k).take (n+1))[i]?.getD 0:Nat):Int):=by rw [IntKind.wrap_u64];omega
   have wtt:IntKind.u64.wrap (((v[i]?.getD 0*f+cc) % 4294967296:Nat):Int)=(((v[i]?.getD 0*f+cc) % 4294967296:Nat):Int):=by rw [IntKind.wrap_u64];omega
   clear hN hrw hbl hbx hset hR s1 s2 s3 m2 m1 hpl hwd htl hd' hxi;generalize lessW (((P.drop k).take (n+1))[i]?.getD 0) ((v[i]?.getD 0*f+cc) % 4294967296+bb)=d' at *;generalize lessB (((P.drop k).take (n+1))[i]?.getD 0) ((v[i]?.getD 0*f+cc) % 4294967296+bb)=b2 at *;generalize (v[i]?.getD 0*f+cc) % 4294967296=tt at *;generalize (v[i]?.getD 0*f+cc) / 4294967296=c2 at *;generalize ((P.drop k).take (n+1))[i]?.getD 0=x at *;have i1:(0:Int)≤(i:Int):=by omega
   have i2:(i:Int)<(n:Int)+1:=by omega
   by_cases hin:i<n
   ·obtain ⟨b',o',rfl,hb',hc'⟩:=HV.out.2.2 (by omega);have hd0:wu.cell? ⟨b',o'+i,none⟩=some (.int .u32 ((v[i]?.getD 0:Nat):Int)):=(World.cell?_of_block (a:=⟨b',o'+i,none⟩) (s4.block b' hb' (HB.out b' o' rfl))).trans (hc' i hin);have wvi:IntKind.u64.wrap ((v[i]?.getD 0:Nat):Int)=((v[i]?.getD 0:Nat):Int):=by rw [IntKind.wrap_u64];omega
    have epr:((v[i]?.getD 0:Nat):Int)*(f:Int)=((v[i]?.getD 0*f:Nat):Int):=by push_cast;rfl
    have wpr:IntKind.u64.wrap (((v[i]?.getD 0:Nat):Int)*(f:Int))=((v[i]?.getD 0*f:Nat):Int):=by rw [epr,IntKind.wrap_u64];omega
    have i3:(i:Int)<(n:Int):=by omega
    generalize v[i]?.getD 0*f=pr at *;generalize v[i]?.getD 0=vi at *;clear epr hpm hvi hzero hc' s4
    go_wp2_with fail
    go_region_held3 (fun w'=>w'.cell? ⟨b,o+k+i,none⟩=some (.int .u32 (x:Int))) (first|assumption)
     (first|(go_at_call 217;refine (HNX.out _ Q3.out).mono ?_;rintro e w3 ⟨rfl,rfl⟩))
    go_wp2;go_roundw
    case rel=>exact ⟨i+1,b2,by omega,by go_num,rfl,HN.out⟩
    case measure=>simp [intOf];omega
   ·have hv0:=hzero hin;have i3:¬ (i:Int)<(n:Int):=by omega
    rw [hv0,Nat.zero_mul] at HNX;clear hv0 hzero hpm hvi s4
    go_wp2_with fail
    go_region_held3 (fun w'=>w'.cell? ⟨b,o+k+i,none⟩=some (.int .u32 (x:Int))) (first|assumption)
     (first|(go_at_call 217;refine (HNX.out _ Q3.out).mono ?_;rintro e w3 ⟨rfl,rfl⟩))
    go_wp2;go_roundw
    case rel=>exact ⟨i+1,b2,by omega,by go_num,rfl,HN.out⟩
    case measure=>simp [intOf];omega
  ·obtain rfl:i=n+1:=by omega
   have HF2:=Hj (And.intro s1 (And.intro s2 s4));clear hR s1 s2 s3 s4 hpl;go_wp2;go_ret;exact ⟨p,cc,bb,rfl,HF2.out⟩
theorem val_split (l:List Nat) (k:Nat) (h:k≤l.length):val l=val (l.take k)+4294967296 ^ k*val (l.drop k):=by
 have:=val_append (l.take k) (l.drop k);rw [List.take_append_drop,List.length_take,Nat.min_eq_left h] at this;exact this
structure LdI (u0 v:List Nat) (n k:Nat) (U Q:List Nat):Prop where
 len:U.length=u0.length
 ws:Ws U
 qws:Ws Q
 low:val (U.drop k)<val v
 top:val (U.drop (k+n))=0
 eq:val u0=val v*(4294967296 ^ k*val (Q.drop k))+val U
theorem LdI.window {u0 v U Q:List Nat} {n k:Nat} (h:LdI u0 v n (k+1) U Q) (hk:k+(n+1)≤U.length):val (U.drop k)=val ((U.drop k).take (n+1))∧val ((U.drop k).take (n+1))<4294967296*val v:=by
 have h1:=val_split (U.drop k) (n+1) (by rw [List.length_drop];omega);have h2:=h.top;rw [List.drop_drop,show k+(n+1)=k+1+n by omega,h2,Nat.mul_zero,Nat.add_zero] at h1;have h3:=val_drop_succ U k;have h4:=h.low;have h5:=h.ws.get k;refine ⟨h1,?_⟩;rw [← h1,h3];have:4294967296*(val (U.drop (k+1))+1)≤4294967296*val v:=Nat.mul_le_mul_left _ h4;omega
theorem LdI.step {u0 v U Q p:List Nat} {n k q:Nat} (h:LdI u0 v n (k+1) U Q) (hv:Ws v) (hvl:v.length=n) (hk:k+(n+1)≤U.length) (hkQ:k<Q.length) (hp:p.length=n+1) (hpw:Ws p)
  (hq:q=val ((U.drop k).take (n+1)) / val v) (hr:val p=val ((U.drop k).take (n+1)) % val v):LdI u0 v n k (win U k (n+1) p) (Q.set k q)∧q<4294967296:=by
 obtain ⟨w1,w2⟩:=h.window hk;have hV:0<val v:=by
  rcases Nat.eq_zero_or_pos (val v) with h0|h0
  ·rw [h0] at w2;omega
  ·exact h0
 have hqB:q<4294967296:=by rw [hq,Nat.div_lt_iff_lt_mul hV];exact w2
 have hml:=Nat.mod_lt (val ((U.drop k).take (n+1))) hV;have hdm:=Nat.div_add_mod (val ((U.drop k).take (n+1))) (val v);rw [← hq,← hr] at hdm;rw [← hr] at hml;have hwl:(win U k (n+1) p).length=U.length:=win_len hk hp;have hdr:(win U k (n+1) p).drop k=p ++ U.drop (k+(n+1)):=by
  unfold win;rw [List.append_assoc,List.drop_append,List.length_take,Nat.min_eq_left (by omega),Nat.sub_self,List.drop_zero,List.drop_of_length_le (by rw [List.length_take];omega),List.nil_append]
 have htk:(win U k (n+1) p).take k=U.take k:=by
  unfold win;rw [List.append_assoc,List.take_append_of_le_length (by rw [List.length_take];omega),List.take_take,Nat.min_self]
 have ht0:val (U.drop (k+(n+1)))=0:=by rw [show k+(n+1)=k+1+n by omega];exact h.top
 have hvd:val ((win U k (n+1) p).drop k)=val p:=by rw [hdr,val_append,ht0];omega
 have hpn:val (p.drop n)=0:=by
  have e1:=val_split p n (by omega);have e2:=val_lt hv;rw [hvl] at e2;rcases Nat.eq_zero_or_pos (val (p.drop n)) with h0|h0
  ·exact h0
  ·have:4294967296 ^ n*1≤4294967296 ^ n*val (p.drop n):=Nat.mul_le_mul_left _ h0;omega
 refine ⟨⟨hwl.trans h.len,win_ws h.ws hpw,h.qws.set k hqB,by rw [hvd];exact hml,?_,?_⟩,hqB⟩
 ·rw [← List.drop_drop,hdr,List.drop_append_of_le_length (by omega),val_append,hpn,ht0];simp
 ·have eU:=val_split U k (by omega);have eW:=val_split (win U k (n+1) p) k (by rw [hwl];omega);rw [htk,hvd] at eW;rw [w1] at eU;have eQ:val ((Q.set k q).drop k)=q+4294967296*val (Q.drop (k+1)):=by
   rw [val_drop_succ,List.getElem?_set_self hkQ,List.drop_set_of_lt (by omega)]
   rfl
  have e0:=h.eq;rw [e0,eQ,eW,eU,← hdm,Nat.pow_succ];generalize 4294967296 ^ k=P;generalize val (Q.drop (k+1))=X;generalize val v=V;rw [Nat.mul_add P q,Nat.mul_add V (P*q),Nat.mul_add P (V*q),Nat.mul_assoc P 4294967296 X,Nat.mul_left_comm V P q];omega
theorem LdI.start {u0 v Q:List Nat} {n m:Nat} (hu:Ws u0) (hQ:Ws Q) (hul:u0.length=m+n) (hQl:Q.length=m) (hlow:val (u0.drop m)<val v):LdI u0 v n m u0 Q :=
 ⟨rfl,hu,hQ,hlow,by rw [List.drop_of_length_le (by omega)];rfl,by rw [List.drop_of_length_le (by omega)];simp [val_nil]⟩
theorem LdI.done {u0 v U Q:List Nat} {n:Nat} (h:LdI u0 v n 0 U Q):val Q=val u0 / val v∧val U=val u0 % val v:=by
 have h1:=h.eq;have h2:=h.low;simp only [Nat.pow_zero,Nat.one_mul,List.drop_zero] at h1 h2;have h3:=Nat.div_mod_unique (a:=val u0) (b:=val v) (c:=val U) (d:=val Q) (by omega);have h4:=h3.2 ⟨by rw [h1];omega,h2⟩;exact ⟨h4.1.symm,h4.2.symm⟩
def abk (p v:List Nat) (i:Nat):List Nat:=cdig 0 (sumW p v i) ++ p.drop i
theorem sumW_succ (p v:List Nat) (i:Nat):sumW p v (i+1)=sumW p v i ++ [p[i]?.getD 0+v[i]?.getD 0]:=by simp [sumW,List.range_succ]
theorem sumW_len (p v:List Nat) (i:Nat):(sumW p v i).length=i:=by simp [sumW]
theorem abk_len {p v:List Nat} {i:Nat} (h:i≤p.length):(abk p v i).length=p.length:=by
 unfold abk;rw [List.length_append,cdig_len,sumW_len,List.length_drop];omega
theorem abk_get {p v:List Nat} {i:Nat} (h:i<p.length):(abk p v i)[i]?.getD 0=p[i]?.getD 0:=by
 unfold abk;rw [List.getElem?_append_right (by rw [cdig_len,sumW_len];omega),cdig_len,sumW_len,Nat.sub_self,List.getElem?_drop,Nat.add_zero]
theorem abk_set {p v:List Nat} {i:Nat} (h:i<p.length):(abk p v i).set i ((p[i]?.getD 0+v[i]?.getD 0+cout 0 (sumW p v i)) % 4294967296)=abk p v (i+1):=by
 unfold abk;rw [sumW_succ,cdig_snoc,List.set_append_right _ _ (by rw [cdig_len,sumW_len];omega),cdig_len,sumW_len,Nat.sub_self,List.drop_eq_getElem_cons h,List.set_cons_zero,List.append_assoc]
 rfl
theorem abk_ws {p v:List Nat} {i:Nat} (h:Ws p):Ws (abk p v i):=(cdig_Ws _ _).append (h.drop i)
theorem abk_zero (p v:List Nat):abk p v 0=p:=by simp [abk,sumW,cdig]
theorem sumW_carry {p v:List Nat} (hp:Ws p) (hv:Ws v) (i:Nat):cout 0 (sumW p v i)<2:=by
 refine cout_lt (by decide) (by decide) fun t ht=>?_;obtain ⟨j,_,rfl⟩:=List.mem_map.1 ht;have:=hp.get j;have:=hv.get j;omega
theorem abk_all {p v:List Nat} {i:Nat} (h:p.length=i):abk p v i=cdig 0 (sumW p v i):=by
 unfold abk;rw [List.drop_of_length_le (by omega),List.append_nil]
theorem shift_div {b pv:List Nat} {n s:Nat} (hb:Ws b) (hbl:b.length=n+1) (hpw:Ws pv) (hpl:pv.length=n+2) (hpv:val pv=val b*2 ^ s) (h1:2147483648≤b[n]?.getD 0*2 ^ s) (h2:b[n]?.getD 0*2 ^ s<4294967296) (hs:s<32) :
  val (pv.take (n+1))=val b*2 ^ s∧2147483648≤(pv.take (n+1))[n]?.getD 0∧2147483648*4294967296 ^ n≤val (pv.take (n+1)):=by
 have eb:=val_take_succ b n;rw [List.take_of_length_le (show b.length≤n+1 by omega)] at eb;have lb:=val_lt (hb.take n);rw [List.length_take,Nat.min_eq_left (by omega)] at lb;generalize hP:4294967296 ^ n=P at *;have e32:2 ^ s*2 ^ (32-s)=4294967296:=by rw [← Nat.pow_add,show s+(32-s)=32 by omega]
 have hb1:(b[n]?.getD 0+1)*2 ^ s≤4294967296:=by
  have:b[n]?.getD 0*2 ^ s<2 ^ (32-s)*2 ^ s:=by rw [Nat.mul_comm (2 ^ (32-s)),e32];exact h2
  have h3:=Nat.lt_of_mul_lt_mul_right this;have h4:=Nat.mul_le_mul_right (2 ^ s) (show b[n]?.getD 0+1≤2 ^ (32-s) from h3);rw [Nat.mul_comm (2 ^ (32-s)),e32] at h4;exact h4
 have hup:val b*2 ^ s<4294967296*P:=by
  have h5:val b<(b[n]?.getD 0+1)*P:=by rw [eb,Nat.add_mul,Nat.mul_comm P];omega
  have hpos:0<2 ^ s:=Nat.pos_of_ne_zero (by simp);have h6:=Nat.mul_lt_mul_of_pos_right h5 hpos;have h7:=Nat.mul_le_mul_right P hb1;rw [Nat.mul_right_comm] at h6;omega
 have hlo:2147483648*P≤val b*2 ^ s:=by
  have h5:P*b[n]?.getD 0≤val b:=by omega
  have h6:=Nat.mul_le_mul_right (2 ^ s) h5;rw [Nat.mul_assoc] at h6;have h7:=Nat.mul_le_mul_left P h1;rw [Nat.mul_comm P 2147483648] at h7;omega
 have e1:=val_take_succ pv (n+1);rw [List.take_of_length_le (show pv.length≤n+1+1 by omega),Nat.pow_succ,hP] at e1;have hz:pv[n+1]?.getD 0=0:=by
  rcases Nat.eq_zero_or_pos (pv[n+1]?.getD 0) with h0|h0
  ·exact h0
  ·have:P*4294967296*1≤P*4294967296*pv[n+1]?.getD 0:=Nat.mul_le_mul_left _ h0;omega
 have e2:val (pv.take (n+1))=val b*2 ^ s:=by
  rw [hz,Nat.mul_zero,Nat.add_zero] at e1;rw [← e1,hpv]
 refine ⟨e2,?_,by rw [e2];exact hlo⟩;have e3:=val_take_succ (pv.take (n+1)) n;rw [List.take_of_length_le (show (pv.take (n+1)).length≤n+1 by rw [List.length_take];omega),hP] at e3;have l3:=val_lt ((hpw.take (n+1)).take n);rw [List.length_take,List.length_take,Nat.min_eq_left (by omega),hP] at l3;rcases Nat.lt_or_ge ((pv.take (n+1))[n]?.getD 0) 2147483648 with hlt|hge
 ·have:P*((pv.take (n+1))[n]?.getD 0+1)≤P*2147483648:=Nat.mul_le_mul_left P hlt;rw [Nat.mul_add,Nat.mul_one] at this;rw [Nat.mul_comm P 2147483648] at this;omega
 ·exact hge
theorem shift_low {a u0:List Nat} {n m s V:Nat} (ha:Ws a) (hal:a.length=m+n) (hu:Ws u0) (hul:u0.length=m+n+1) (hv:val u0=val a*2 ^ s) (hs:s<32) (hV:2147483648*4294967296 ^ n≤V):val (u0.drop m)<V:=by
 have h1:=val_lt ha;have h2:=val_split u0 m (by omega);have hp:2 ^ s≤2147483648:=Nat.le_trans (Nat.pow_le_pow_right (by decide) (show s≤31 by omega)) (by decide);rw [hal,Nat.pow_add] at h1;have hpos:0<2 ^ s:=Nat.pos_of_ne_zero (by simp);have h3:=Nat.mul_lt_mul_of_pos_right h1 hpos;have h4:4294967296 ^ m*4294967296 ^ n*2 ^ s≤4294967296 ^ m*4294967296 ^ n*2147483648:=Nat.mul_le_mul_left _ hp;have h5:4294967296 ^ m*val (u0.drop m)<4294967296 ^ m*(4294967296 ^ n*2147483648):=by
  rw [← Nat.mul_assoc];omega
 have h6:=Nat.lt_of_mul_lt_mul_left h5;rw [Nat.mul_comm (4294967296 ^ n)] at h6;omega
end Go.Proofs.YtjajigkacccdgaaGreat
