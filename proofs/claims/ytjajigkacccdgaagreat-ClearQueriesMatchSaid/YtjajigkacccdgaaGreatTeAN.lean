/-
Lemmas of the walk; no further conditions.
-/
import Derived.Test.YtjajigkacccdgaaGreatTeAG
import Derived.Laws.EntriesVeiled
set_option linter.unusedVariables false
set_option linter.unusedSimpArgs false
set_option maxRecDepth 100000
set_option maxHeartbeats 16000000
namespace Go.Proofs.YtjajigkacccdgaaGreat
open Go.RowKit
open Wd
def StAt (w:World) (A:Option Addr) (n:Nat) (l:List (Int×Int)):Prop :=
 l.length=n∧(∀ s∈l,Fits s.1∧Fits s.2)∧(n≠0→∃ b o,A=some ⟨b,o,none⟩∧b<w.heap.size∧∀ j,j<n→w.cell? ⟨b,o+j*2,none⟩=some (.int .i64 (l[j]?.getD (0,0)).1)∧w.cell? ⟨b,o+j*2+1,none⟩=some (.int .i64 (l[j]?.getD (0,0)).2))
theorem StAt.below {w w':World} {A:Option Addr} {n:Nat} {l:List (Int×Int)} (h:StAt w A n l) (hb:Below w.heap.size w w'):StAt w' A n l:=by
 refine ⟨h.1,h.2.1,fun hn=>?_⟩;obtain ⟨b,o,rfl,hlt,hc⟩:=h.2.2 hn;exact ⟨b,o,rfl,Nat.lt_of_lt_of_le hlt hb.size,fun j hj=>⟨(hb.cell hlt).trans (hc j hj).1,(hb.cell hlt).trans (hc j hj).2⟩⟩
def flw (up:Bool) (prev p:Int):Bool:=if up then decide (prev<p) else decide (p<prev)
def chkFrom (up:Bool):Option Int→List (Int×Int)→Int
 | _,[]=>0
 | prev,(q,p) :: r=>if q<1∨1000000<q∨p < -1000000∨1000000<p then 1 else
  match prev with
  | none=>chkFrom up (some p) r
  | some v=>if flw up v p then chkFrom up (some p) r else 3
def chk (up:Bool) (l:List (Int×Int)):Int:=if l.length=0 then 4 else if 3<l.length then 5 else chkFrom up none l
def Bad (q p:Int):Prop:=q<1∨1000000<q∨p < -1000000∨1000000<p
theorem chkFrom_nil (up:Bool) (prev:Option Int):chkFrom up prev []=0:=by cases prev<;>rfl
theorem chkFrom_bad {up:Bool} {prev:Option Int} {q p:Int} {r:List (Int×Int)} (h:Bad q p):chkFrom up prev ((q,p) :: r)=1:=by
 cases prev<;>(rw [chkFrom];exact if_pos h)
theorem chkFrom_first {up:Bool} {q p:Int} {r:List (Int×Int)} (h:¬ Bad q p):chkFrom up none ((q,p) :: r)=chkFrom up (some p) r:=by
 rw [chkFrom];exact if_neg h
theorem chkFrom_next {up:Bool} {v q p:Int} {r:List (Int×Int)} (h:¬ Bad q p):chkFrom up (some v) ((q,p) :: r)=if flw up v p then chkFrom up (some p) r else 3:=by
 rw [chkFrom];exact if_neg h
theorem rising_f (a b:Int) (w:World):Calls Tryz.prog 157 #[.int .i64 a,.int .i64 b] w fun e w'=>e=.returned (.bool (flw true a b))∧w=w':=by
 have e:flw true a b=decide (a<b):=rfl;rw [e];go_enter Tryz.func157,Tryz.ntmps157;go_wp2;go_ret;exact ⟨rfl,rfl⟩
theorem falling_f (a b:Int) (w:World):Calls Tryz.prog 177 #[.int .i64 a,.int .i64 b] w fun e w'=>e=.returned (.bool (flw false a b))∧w=w':=by
 have e:flw false a b=decide (b<a):=rfl;rw [e];go_enter Tryz.func177,Tryz.ntmps177;go_wp2;go_ret;exact ⟨rfl,rfl⟩
theorem drop_cons {l:List (Int×Int)} {k:Nat} (hk:k<l.length):l.drop k=(l[k]?.getD (0,0)) :: l.drop (k+1):=by
 rw [List.drop_eq_getElem_cons hk,List.getElem?_eq_getElem hk];rfl
def pv (l:List (Int×Int)) (k:Nat):Option Int:=if k=0 then none else some (l[k-1]?.getD (0,0)).2
def ChkR (up:Bool) (w:World) (l:List (Int×Int)) (k:Nat) (wr:World) (f:Value):Prop :=
 chkFrom up none l=chkFrom up (pv l k) (l.drop k)∧Blk wr w.heap.size 146 #[f]∧Below w.heap.size w wr
theorem dcheck_up (A:Option Addr) (n c:Nat) (l:List (Int×Int)) (w:World) (h:StAt w A n l) (hm:n≤1000000000000) :
  Calls Tryz.prog 120 #[.agg #[.func (.func 157) #[] #[]],.slice A n c] w fun e w'=>e=.returned (.int .i64 (chk true l))∧Below w.heap.size w w':=by
 obtain ⟨hl,hf,hc⟩:=h;by_cases h0:n=0
 ·subst h0;have e:chk true l=4:=by unfold chk;rw [if_pos hl]
  rw [e];go_enter Tryz.func120,Tryz.ntmps120;go_wp2;go_ret;exact ⟨rfl,(Below.refl _ _).alloc (Nat.le_refl _) _⟩
 ·by_cases h3:3<n
  ·have e:chk true l=5:=by unfold chk;rw [if_neg (by omega),if_pos (by omega)]
   rw [e];have hn0:((n:Int) == 0)=false:=by simp;omega
   go_enter Tryz.func120,Tryz.ntmps120;go_wp2;go_ret;exact ⟨rfl,(Below.refl _ _).alloc (Nat.le_refl _) _⟩
  ·have e:chk true l=chkFrom true none l:=by unfold chk;rw [if_neg (by omega),if_neg (by omega)]
   rw [e];have hn0:((n:Int) == 0)=false:=by simp;omega
   have HL:=Hj hl;have HFT:=Hj hf;obtain ⟨b,o,rfl,hb,hcell⟩:=hc h0;have HC:=Hj hcell;clear e hl hf hc hcell;go_enter Tryz.func120,Tryz.ntmps120
   go_wp2_with fail
   have hst:ChkR true w l 0 (w.alloc (.cells #[.func (.func 157) #[] #[]] 146)) (.func (.func 157) #[] #[]):=⟨rfl,Blk.new _ _ _,(Below.refl _ _).alloc (Nat.le_refl _) _⟩;generalize w.alloc (.cells #[.func (.func 157) #[] #[]] 146)=W0 at *
   go_loopw [15] (fun t wr=>∃ k:Nat,k≤n∧t=.int .i64 k∧ChkR true w l k wr (.func (.func 157) #[] #[])) (fun t _=>n-(intOf t).toNat)
   case atStart=>exact ⟨0,Nat.zero_le _,rfl,hst⟩
   case round =>
    obtain ⟨k,hk,rfl,hR,hG,hB⟩:=hrel;have HR:=Hj hR;clear hst hR;by_cases hlt:k<n
    ·obtain ⟨ck,ck'⟩:=HC.out k hlt;have hck:=(hB.cell (p:=⟨b,o+k*2,none⟩) hb).trans ck;have hck':=(hB.cell (p:=⟨b,o+k*2+1,none⟩) hb).trans ck';have hdr:=drop_cons (l:=l) (k:=k) (by rw [HL.out];exact hlt);have hbr:b<wr.heap.size:=Nat.lt_of_lt_of_le hb hB.size;generalize hsp:l[k]?.getD (0,0)=sp at *;obtain ⟨q,p⟩:=sp;have HDR:=Hj hdr;have HSP:=Hj hsp;clear ck ck' hdr hsp;simp only at hck hck';obtain ⟨f0,-⟩:=hG.one;have hb9:=hB.alloc hB.size (.cells #[.int .i64 q,.int .i64 p] 107);have hG9:=hG.alloc (.cells #[.int .i64 q,.int .i64 p] 107);have f9:=(hG9.one).1;by_cases hbad:Bad q p
     ·have e:chkFrom true none l=1:=by rw [HR.out,HDR.out];exact chkFrom_bad hbad
      have E:=Hj e;have hb4:q<1∨(¬ q<1∧1000000<q)∨(¬ q<1∧¬ 1000000<q∧p < -1000000)∨(¬ q<1∧¬ 1000000<q∧¬ p < -1000000∧1000000<p):=by unfold Bad at hbad;omega
      clear e hbad;rcases hb4 with g1|⟨g1,g2⟩|⟨g1,g2,g3⟩|⟨g1,g2,g3,g4⟩
      all_goals
       go_wp2;go_ret;rw [E.out];exact ⟨rfl,hb9⟩
     ·have g1:¬ q<1:=by unfold Bad at hbad;omega
      have g2:¬ 1000000<q:=by unfold Bad at hbad;omega
      have g3:¬ p < -1000000:=by unfold Bad at hbad;omega
      have g4:¬ 1000000<p:=by unfold Bad at hbad;omega
      have HB:=Hj hbad;clear hbad;by_cases hk0:k=0
      ·subst hk0;have hd:decide ((0:Int)<((0:Nat):Int))=false:=by simp
       have hnew:chkFrom true none l=chkFrom true (some p) (l.drop (0+1)):=by
        rw [HR.out,HDR.out];exact chkFrom_first HB.out
       have HN:Hid (chkFrom true none l=chkFrom true (pv l (0+1)) (l.drop (0+1))):=by unfold Hid;rw [hnew];unfold pv;rw [if_neg (by omega)];rw [show 0+1-1=0 from rfl,HSP.out]
       clear hnew;simp only [Nat.zero_mul,Nat.add_zero] at hck hck'
       go_wp2_with fail
       go_quiet (fail)
       go_wp2;go_roundw
       case rel=>exact ⟨0+1,by omega,by go_num,HN.out,hG9,below_drewN hb9 _⟩
       case measure=>simp [intOf];omega
      ·obtain ⟨k,rfl⟩:∃ j,k=j+1:=⟨k-1,by omega⟩;obtain ⟨ck,ck'⟩:=HC.out k (by omega);have hcp:=(hb9.cell (p:=⟨b,o+k*2+1,none⟩) hb).trans ck';have hpv:pv l (k+1)=some (l[k]?.getD (0,0)).2:=by unfold pv;rw [if_neg (by omega)];rfl
       generalize hpe:(l[k]?.getD (0,0)).2=v at *;have hR2:chkFrom true none l=if flw true v p then chkFrom true (some p) (l.drop (k+1+1)) else 3:=by
        rw [HR.out,HDR.out,hpv];exact chkFrom_next HB.out
       have HR2:=Hj hR2;have HPV:Hid (pv l (k+1+1)=some p):=by unfold Hid pv;rw [if_neg (by omega)];rw [show k+1+1-1=k+1 from rfl,HSP.out]
       have hkp:(0:Int)<(k:Int)+1:=by omega
       have hkw:IntKind.i64.wrap ((k:Int)+1-1)=(k:Int):=by rw [show (k:Int)+1-1=k by omega];exact IntWalk.i64_in _ (by omega)
       have hkn:(k:Int)<(n:Int):=by omega
       have hk00:(0:Int)≤(k:Int):=by omega
       clear ck ck' hR2 hpv hpe hk0;cases hfl:flw true v p
       ·have e:chkFrom true none l=3:=by rw [HR2.out,hfl];rfl
        have E:=Hj e;clear e HR2;have T:=fun W=>rising_f v p W;rw [hfl] at T;have T:=Hj T;clear hfl
        go_wp2_with fail
        go_quiet ((go_at_call 157;exact quiet_left (T.out _)))
        go_wp2;go_ret;rw [E.out];exact ⟨rfl,below_drewN hb9 _⟩
       ·have e:chkFrom true none l=chkFrom true (pv l (k+1+1)) (l.drop (k+1+1)):=by rw [HR2.out,hfl,HPV.out];rfl
        have E:=Hj e;clear e HR2;have T:=fun W=>rising_f v p W;rw [hfl] at T;have T:=Hj T;clear hfl
        go_wp2_with fail
        go_quiet ((go_at_call 157;exact quiet_left (T.out _)))
        go_wp2;go_roundw
        case rel=>exact ⟨k+1+1,by omega,by go_num,E.out,hG9,below_drewN hb9 _⟩
        case measure=>simp [intOf];omega
    ·obtain rfl:k=n:=by omega
     have e:chkFrom true none l=0:=by rw [HR.out,List.drop_of_length_le (by rw [HL.out];exact Nat.le_refl _)];exact chkFrom_nil _ _
     have E:=Hj e;clear e;go_wp2;go_ret;rw [E.out];exact ⟨rfl,hB⟩
theorem dcheck_dn (A:Option Addr) (n c:Nat) (l:List (Int×Int)) (w:World) (h:StAt w A n l) (hm:n≤1000000000000) :
  Calls Tryz.prog 120 #[.agg #[.func (.func 177) #[] #[]],.slice A n c] w fun e w'=>e=.returned (.int .i64 (chk false l))∧Below w.heap.size w w':=by
 obtain ⟨hl,hf,hc⟩:=h;by_cases h0:n=0
 ·subst h0;have e:chk false l=4:=by unfold chk;rw [if_pos hl]
  rw [e];go_enter Tryz.func120,Tryz.ntmps120;go_wp2;go_ret;exact ⟨rfl,(Below.refl _ _).alloc (Nat.le_refl _) _⟩
 ·by_cases h3:3<n
  ·have e:chk false l=5:=by unfold chk;rw [if_neg (by omega),if_pos (by omega)]
   rw [e];have hn0:((n:Int) == 0)=false:=by simp;omega
   go_enter Tryz.func120,Tryz.ntmps120;go_wp2;go_ret;exact ⟨rfl,(Below.refl _ _).alloc (Nat.le_refl _) _⟩
  ·have e:chk false l=chkFrom false none l:=by unfold chk;rw [if_neg (by omega),if_neg (by omega)]
   rw [e];have hn0:((n:Int) == 0)=false:=by simp;omega
   have HL:=Hj hl;have HFT:=Hj hf;obtain ⟨b,o,rfl,hb,hcell⟩:=hc h0;have HC:=Hj hcell;clear e hl hf hc hcell;go_enter Tryz.func120,Tryz.ntmps120
   go_wp2_with fail
   have hst:ChkR false w l 0 (w.alloc (.cells #[.func (.func 177) #[] #[]] 146)) (.func (.func 177) #[] #[]):=⟨rfl,Blk.new _ _ _,(Below.refl _ _).alloc (Nat.le_refl _) _⟩;generalize w.alloc (.cells #[.func (.func 177) #[] #[]] 146)=W0 at *
   go_loopw [15] (fun t wr=>∃ k:Nat,k≤n∧t=.int .i64 k∧ChkR false w l k wr (.func (.func 177) #[] #[])) (fun t _=>n-(intOf t).toNat)
   case atStart=>exact ⟨0,Nat.zero_le _,rfl,hst⟩
   case round =>
    obtain ⟨k,hk,rfl,hR,hG,hB⟩:=hrel;have HR:=Hj hR;clear hst hR;by_cases hlt:k<n
    ·obtain ⟨ck,ck'⟩:=HC.out k hlt;have hck:=(hB.cell (p:=⟨b,o+k*2,none⟩) hb).trans ck;have hck':=(hB.cell (p:=⟨b,o+k*2+1,none⟩) hb).trans ck';have hdr:=drop_cons (l:=l) (k:=k) (by rw [HL.out];exact hlt);have hbr:b<wr.heap.size:=Nat.lt_of_lt_of_le hb hB.size;generalize hsp:l[k]?.getD (0,0)=sp at *;obtain ⟨q,p⟩:=sp;have HDR:=Hj hdr;have HSP:=Hj hsp;clear ck ck' hdr hsp;simp only at hck hck';obtain ⟨f0,-⟩:=hG.one;have hb9:=hB.alloc hB.size (.cells #[.int .i64 q,.int .i64 p] 107);have hG9:=hG.alloc (.cells #[.int .i64 q,.int .i64 p] 107);have f9:=(hG9.one).1;by_cases hbad:Bad q p
     ·have e:chkFrom false none l=1:=by rw [HR.out,HDR.out];exact chkFrom_bad hbad
      have E:=Hj e;have hb4:q<1∨(¬ q<1∧1000000<q)∨(¬ q<1∧¬ 1000000<q∧p < -1000000)∨(¬ q<1∧¬ 1000000<q∧¬ p < -1000000∧1000000<p):=by unfold Bad at hbad;omega
      clear e hbad;rcases hb4 with g1|⟨g1,g2⟩|⟨g1,g2,g3⟩|⟨g1,g2,g3,g4⟩
      all_goals
       go_wp2;go_ret;rw [E.out];exact ⟨rfl,hb9⟩
     ·have g1:¬ q<1:=by unfold Bad at hbad;omega
      have g2:¬ 1000000<q:=by unfold Bad at hbad;omega
      have g3:¬ p < -1000000:=by unfold Bad at hbad;omega
      have g4:¬ 1000000<p:=by unfold Bad at hbad;omega
      have HB:=Hj hbad;clear hbad;by_cases hk0:k=0
      ·subst hk0;have hd:decide ((0:Int)<((0:Nat):Int))=false:=by simp
       have hnew:chkFrom false none l=chkFrom false (some p) (l.drop (0+1)):=by
        rw [HR.out,HDR.out];exact chkFrom_first HB.out
       have HN:Hid (chkFrom false none l=chkFrom false (pv l (0+1)) (l.drop (0+1))):=by unfold Hid;rw [hnew];unfold pv;rw [if_neg (by omega)];rw [show 0+1-1=0 from rfl,HSP.out]
       clear hnew;simp only [Nat.zero_mul,Nat.add_zero] at hck hck'
       go_wp2_with fail
       go_quiet (fail)
       go_wp2;go_roundw
       case rel=>exact ⟨0+1,by omega,by go_num,HN.out,hG9,below_drewN hb9 _⟩
       case measure=>simp [intOf];omega
      ·obtain ⟨k,rfl⟩:∃ j,k=j+1:=⟨k-1,by omega⟩;obtain ⟨ck,ck'⟩:=HC.out k (by omega);have hcp:=(hb9.cell (p:=⟨b,o+k*2+1,none⟩) hb).trans ck';have hpv:pv l (k+1)=some (l[k]?.getD (0,0)).2:=by unfold pv;rw [if_neg (by omega)];rfl
       generalize hpe:(l[k]?.getD (0,0)).2=v at *;have hR2:chkFrom false none l=if flw false v p then chkFrom false (some p) (l.drop (k+1+1)) else 3:=by
        rw [HR.out,HDR.out,hpv];exact chkFrom_next HB.out
       have HR2:=Hj hR2;have HPV:Hid (pv l (k+1+1)=some p):=by unfold Hid pv;rw [if_neg (by omega)];rw [show k+1+1-1=k+1 from rfl,HSP.out]
       have hkp:(0:Int)<(k:Int)+1:=by omega
       have hkw:IntKind.i64.wrap ((k:Int)+1-1)=(k:Int):=by rw [show (k:Int)+1-1=k by omega];exact IntWalk.i64_in _ (by omega)
       have hkn:(k:Int)<(n:Int):=by omega
       have hk00:(0:Int)≤(k:Int):=by omega
       clear ck ck' hR2 hpv hpe hk0;cases hfl:flw false v p
       ·have e:chkFrom false none l=3:=by rw [HR2.out,hfl];rfl
        have E:=Hj e;clear e HR2;have T:=fun W=>falling_f v p W;rw [hfl] at T;have T:=Hj T;clear hfl
        go_wp2_with fail
        go_quiet ((go_at_call 177;exact quiet_left (T.out _)))
        go_wp2;go_ret;rw [E.out];exact ⟨rfl,below_drewN hb9 _⟩
       ·have e:chkFrom false none l=chkFrom false (pv l (k+1+1)) (l.drop (k+1+1)):=by rw [HR2.out,hfl,HPV.out];rfl
        have E:=Hj e;clear e HR2;have T:=fun W=>falling_f v p W;rw [hfl] at T;have T:=Hj T;clear hfl
        go_wp2_with fail
        go_quiet ((go_at_call 177;exact quiet_left (T.out _)))
        go_wp2;go_roundw
        case rel=>exact ⟨k+1+1,by omega,by go_num,E.out,hG9,below_drewN hb9 _⟩
        case measure=>simp [intOf];omega
    ·obtain rfl:k=n:=by omega
     have e:chkFrom false none l=0:=by rw [HR.out,List.drop_of_length_le (by rw [HL.out];exact Nat.le_refl _)];exact chkFrom_nil _ _
     have E:=Hj e;clear e;go_wp2;go_ret;rw [E.out];exact ⟨rfl,hB⟩
theorem rising_any (w:World):Calls Tryz.prog 119 #[] w fun e w'=>e=.returned (.agg #[.func (.func 157) #[] #[]])∧Below w.heap.size w w':=by
 go_enter Tryz.func119,Tryz.ntmps119;go_wp2;refine bodyPost_ret (v:=.agg #[.func (.func 157) #[] #[]]) ?_ rfl ⟨rfl,(Below.refl _ _).alloc (Nat.le_refl _) _⟩;simp [results,Tryz.results119,go_sem]
theorem checkOffer_any (A:Option Addr) (n c:Nat) (l:List (Int×Int)) (w:World) (h:StAt w A n l) (hm:n≤1000000000000) :
  Calls Tryz.prog 69 #[.slice A n c] w fun e w'=>e=.returned (.int .i64 (chk true l))∧Below w.heap.size w w':=by
 have T:=fun W hW=>dcheck_up A n c l W hW hm;generalize chk true l=x at *;have T:=Hj T;go_enter Tryz.func69,Tryz.ntmps69
 go_wp2_with fail
 refine (rising_any w).mono ?_;rintro e w1 ⟨rfl,hb1⟩
 go_wp2_with fail
 refine (T.out w1 (h.below hb1)).mono ?_;rintro e w2 ⟨rfl,hb2⟩;go_wp2;go_ret;exact ⟨rfl,hb1.trans (hb2.mono hb1.size)⟩
theorem falling_any (w:World):Calls Tryz.prog 126 #[] w fun e w'=>e=.returned (.agg #[.func (.func 177) #[] #[]])∧Below w.heap.size w w':=by
 go_enter Tryz.func126,Tryz.ntmps126;go_wp2;refine bodyPost_ret (v:=.agg #[.func (.func 177) #[] #[]]) ?_ rfl ⟨rfl,(Below.refl _ _).alloc (Nat.le_refl _) _⟩;simp [results,Tryz.results126,go_sem]
theorem checkBid_any (A:Option Addr) (n c:Nat) (l:List (Int×Int)) (w:World) (h:StAt w A n l) (hm:n≤1000000000000) :
  Calls Tryz.prog 73 #[.slice A n c] w fun e w'=>e=.returned (.int .i64 (chk false l))∧Below w.heap.size w w':=by
 have T:=fun W hW=>dcheck_dn A n c l W hW hm;generalize chk false l=x at *;have T:=Hj T;go_enter Tryz.func73,Tryz.ntmps73
 go_wp2_with fail
 refine (falling_any w).mono ?_;rintro e w1 ⟨rfl,hb1⟩
 go_wp2_with fail
 refine (T.out w1 (h.below hb1)).mono ?_;rintro e w2 ⟨rfl,hb2⟩;go_wp2;go_ret;exact ⟨rfl,hb1.trans (hb2.mono hb1.size)⟩
def curveE (l:List (Int×Int)):Int:=if chk false l=0 then 0 else chk true l
theorem checkCurve_any (A:Option Addr) (n c:Nat) (l:List (Int×Int)) (w:World) (h:StAt w A n l) (hm:n≤1000000000000) :
  Calls Tryz.prog 136 #[.slice A n c] w fun e w'=>e=.returned (.int .i64 (curveE l))∧Below w.heap.size w w':=by
 unfold curveE;by_cases h0:chk false l=0
 ·rw [if_pos h0];have T:=fun W hW=>checkBid_any A n c l W hW hm;rw [h0] at T;have T:=Hj T;clear h0;go_enter Tryz.func136,Tryz.ntmps136
  go_wp2_with fail
  refine (T.out w h).mono ?_;rintro e w1 ⟨rfl,hb1⟩;go_wp2;go_ret;exact ⟨rfl,hb1⟩
 ·rw [if_neg h0];have T:=fun W hW=>checkBid_any A n c l W hW hm;have T':=fun W hW=>checkOffer_any A n c l W hW hm;generalize chk false l=x at *;generalize chk true l=y at *;have hx:(x == 0)=false:=by simpa using h0
  have T:=Hj T;have T':=Hj T';clear h0;go_enter Tryz.func136,Tryz.ntmps136
  go_wp2_with fail
  refine (T.out w h).mono ?_;rintro e w1 ⟨rfl,hb1⟩
  go_wp2_with fail
  refine (T'.out w1 (h.below hb1)).mono ?_;rintro e w2 ⟨rfl,hb2⟩;go_wp2;go_ret;exact ⟨rfl,hb1.trans (hb2.mono hb1.size)⟩
def qsum (l:List (Int×Int)):Int:=(l.map (·.1)).sum
def sumS (l:List (Int×Int)):Int:=if curveE l=0 then qsum l else 0
theorem chk_len {up:Bool} {l:List (Int×Int)} (h:chk up l=0):l.length≤3:=by
 unfold chk at h;split at h
 ·cases h
 ·split at h
  ·cases h
  ·omega
theorem chkFrom_ok {up:Bool} {l:List (Int×Int)}:∀ {prev:Option Int},chkFrom up prev l=0→∀ s∈l,¬ Bad s.1 s.2:=by
 induction l with
 | nil=>intro _ _ s hs;cases hs
 | cons x r ih =>
  intro prev h s hs;obtain ⟨q,p⟩:=x;by_cases hb:Bad q p
  ·rw [chkFrom_bad hb] at h;cases h
  ·cases prev with
   | none =>
    rw [chkFrom_first hb] at h;rcases List.mem_cons.1 hs with rfl|hs
    ·exact hb
    ·exact ih h s hs
   | some v =>
    rw [chkFrom_next hb] at h;split at h
    ·rcases List.mem_cons.1 hs with rfl|hs
     ·exact hb
     ·exact ih h s hs
    ·cases h
theorem chk_ok {up:Bool} {l:List (Int×Int)} (h:chk up l=0):l.length≠0∧l.length≤3∧chkFrom up none l=0∧∀ s∈l,¬ Bad s.1 s.2:=by
 have hl:=chk_len h;unfold chk at h;split at h
 ·cases h
 ·rw [if_neg (by omega)] at h;exact ⟨by assumption,hl,h,chkFrom_ok h⟩
theorem curve_ok {l:List (Int×Int)} (h:curveE l=0):l.length≠0∧l.length≤3∧∀ s∈l,¬ Bad s.1 s.2:=by
 unfold curveE at h;split at h
 ·rename_i h0
  obtain ⟨h1,h2,_,h3⟩:=chk_ok h0;exact ⟨h1,h2,h3⟩
 ·obtain ⟨h1,h2,_,h3⟩:=chk_ok h;exact ⟨h1,h2,h3⟩
theorem take_snocS {l:List (Int×Int)} {k:Nat} (hk:k<l.length):l.take (k+1)=l.take k ++ [l[k]?.getD (0,0)]:=by
 rw [List.take_succ_eq_append_getElem hk,List.getElem?_eq_getElem hk];rfl
theorem qsum_snoc (l:List (Int×Int)) (s:Int×Int):qsum (l ++ [s])=qsum l+s.1:=by
 unfold qsum;simp
theorem qsum_bd (l:List (Int×Int)) (h:∀ s∈l,¬ Bad s.1 s.2):0≤qsum l∧qsum l≤1000000*l.length:=by
 induction l with
 | nil=>simp [qsum]
 | cons x r ih =>
  have h1:=ih (fun s hs=>h s (List.mem_cons_of_mem _ hs));have h2:=h x (List.mem_cons_self ..);have e:qsum (x :: r)=x.1+qsum r:=by unfold qsum;simp
  rw [e,List.length_cons];unfold Bad at h2;omega
theorem sum_any (A:Option Addr) (n c:Nat) (l:List (Int×Int)) (w:World) (h:StAt w A n l) (hm:n≤1000000000000) :
  Calls Tryz.prog 137 #[.slice A n c] w fun e w'=>e=.returned (.int .i64 (sumS l))∧Below w.heap.size w w':=by
 have T:=checkCurve_any A n c l w h hm;unfold sumS;by_cases h0:curveE l=0
 ·rw [if_pos h0];obtain ⟨hn0,hn3,hok⟩:=curve_ok h0;rw [h0] at T;have T:=Hj T;obtain ⟨hl,hf,hc⟩:=h;have HL:=Hj hl;obtain ⟨b,o,rfl,hb,hcell⟩:=hc (by omega);have HC:=Hj hcell;have HOK:=Hj hok;have hn:n≤3:=by omega
  clear hl hf hc hcell hok h0 hn0 hn3;go_enter Tryz.func137,Tryz.ntmps137
  go_wp2_with fail
  refine T.out.mono ?_;rintro e w1 ⟨rfl,hb1⟩;have HB1:=Hj hb1;clear hb1 T
  go_wp2_with fail
  go_loopw [3,11] (fun t3 t wr=>∃ k:Nat,k≤n∧t=.int .i64 k∧t3=.int .i64 (qsum (l.take k))∧Hid (Below w.heap.size w wr)) (fun _ t _=>n-(intOf t).toNat)
  case atStart=>exact ⟨0,Nat.zero_le _,rfl,rfl,HB1.out⟩
  case round =>
   obtain ⟨k,hk,rfl,rfl,hB⟩:=hrel;by_cases hlt:k<n
   ·obtain ⟨ck,ck'⟩:=HC.out k hlt;have hck:=(hB.out.cell (p:=⟨b,o+k*2,none⟩) hb).trans ck;have hck':=(hB.out.cell (p:=⟨b,o+k*2+1,none⟩) hb).trans ck';have hsn:qsum (l.take (k+1))=qsum (l.take k)+(l[k]?.getD (0,0)).1:=by rw [take_snocS (by rw [HL.out];exact hlt),qsum_snoc]
    have hbd:=qsum_bd (l.take (k+1)) (fun s hs=>HOK.out s (List.mem_of_mem_take hs));have hbd0:=qsum_bd (l.take k) (fun s hs=>HOK.out s (List.mem_of_mem_take hs));have hlen:(l.take (k+1)).length≤3:=by have:=List.length_take_le (k+1) l;omega
    have hlen0:(l.take k).length≤3:=by have:=List.length_take_le k l;omega
    have HSN:=Hj hsn;have hB9:=(hB.out).alloc hB.out.size (.cells #[.int .i64 (l[k]?.getD (0,0)).1,.int .i64 (l[k]?.getD (0,0)).2] 107);have HB9:=Hj hB9;have hq : -3000000≤(l[k]?.getD (0,0)).1∧(l[k]?.getD (0,0)).1≤3000000:=by omega
    have hs1:0≤qsum (l.take k):=by omega
    have hs2:qsum (l.take k)≤3000000:=by omega
    obtain ⟨hq1,hq2⟩:=hq;clear ck ck' hsn hbd hbd0 hlen hlen0 hB9;generalize (l[k]?.getD (0,0)).1=q at *;generalize (l[k]?.getD (0,0)).2=p at *;generalize qsum (l.take k)=sk at *;go_wp2;go_roundw
    case rel=>exact ⟨k+1,by omega,by go_num,by rw [HSN.out],HB9.out⟩
    case measure=>simp [intOf];omega
   ·obtain rfl:k=n:=by omega
    have e:l.take k=l:=List.take_of_length_le (by rw [HL.out];exact Nat.le_refl _);rw [e];go_wp2;go_ret;exact ⟨rfl,hB.out⟩
 ·rw [if_neg h0];generalize curveE l=x at *;have hx:(x != 0)=true:=by simpa using h0
  have T:=Hj T;clear h0;go_enter Tryz.func137,Tryz.ntmps137
  go_wp2_with fail
  refine T.out.mono ?_;rintro e w1 ⟨rfl,hb1⟩;go_wp2;go_ret;exact ⟨rfl,hb1⟩
end Go.Proofs.YtjajigkacccdgaaGreat
