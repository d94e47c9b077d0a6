/-
Lemmas of the walk; no further conditions.
-/
import Derived.Test.YtjajigkacccdgaaGreatTfAI
import Derived.Laws.EntriesVeiled
import Derived.Deep.RegionWith
import Derived.Deep.DrawnRows
set_option linter.unusedVariables false
set_option linter.unusedSimpArgs false
set_option maxRecDepth 100000
set_option maxHeartbeats 16000000
namespace Go.Proofs.YtjajigkacccdgaaGreat
open Go.RowKit Go.Shelf
open Wd
attribute [local go_sem] Oper.semAt_some
end Go.Proofs.YtjajigkacccdgaaGreat
namespace Go.Proofs.YtjajigkacccdgaaGreat
open Go.RowKit
open Wd
def StAt (w:World) (A:Option Addr) (n:Nat) (l:List (Int×Int)):Prop :=
 l.length=n∧(∀ s∈l,Fits s.1∧Fits s.2)∧(n≠0→∃ b o,A=some ⟨b,o,none⟩∧b<w.heap.size∧∀ j,j<n→w.cell? ⟨b,o+j*2,none⟩=some (.int .i64 (l[j]?.getD (0,0)).1)∧w.cell? ⟨b,o+j*2+1,none⟩=some (.int .i64 (l[j]?.getD (0,0)).2))
theorem StAt.below {w w':World} {A:Option Addr} {n:Nat} {l:List (Int×Int)} (h:StAt w A n l) (hb:Below w.heap.size w w'):StAt w' A n l:=by
 refine ⟨h.1,h.2.1,fun hn=>?_⟩;obtain ⟨b,o,rfl,hlt,hc⟩:=h.2.2 hn;exact ⟨b,o,rfl,Nat.lt_of_lt_of_le hlt hb.size,fun j hj=>⟨(hb.cell hlt).trans (hc j hj).1,(hb.cell hlt).trans (hc j hj).2⟩⟩
def flw (up:Bool) (prev p:Int):Bool:=if up then decide (prev<p) else decide (p<prev)
def chkFrom (up:Bool):Option Int→List (Int×Int)→Int
 | _,[]=>0
 | prev,(q,p) :: r=>if q<1∨1000000<q∨p < -1000000∨1000000<p then 1 else
  match prev with
  | none=>chkFrom up (some p) r
  | some v=>if flw up v p then chkFrom up (some p) r else 3
def chk (up:Bool) (l:List (Int×Int)):Int:=if l.length=0 then 4 else if 3<l.length then 5 else chkFrom up none l
def Bad (q p:Int):Prop:=q<1∨1000000<q∨p < -1000000∨1000000<p
theorem chkFrom_nil (up:Bool) (prev:Option Int):chkFrom up prev []=0:=by cases prev<;>rfl
theorem chkFrom_bad {up:Bool} {prev:Option Int} {q p:Int} {r:List (Int×Int)} (h:Bad q p):chkFrom up prev ((q,p) :: r)=1:=by
 cases prev<;>(rw [chkFrom];exact if_pos h)
theorem chkFrom_first {up:Bool} {q p:Int} {r:List (Int×Int)} (h:¬ Bad q p):chkFrom up none ((q,p) :: r)=chkFrom up (some p) r:=by
 rw [chkFrom];exact if_neg h
theorem chkFrom_next {up:Bool} {v q p:Int} {r:List (Int×Int)} (h:¬ Bad q p):chkFrom up (some v) ((q,p) :: r)=if flw up v p then chkFrom up (some p) r else 3:=by
 rw [chkFrom];exact if_neg h
theorem rising_f (a b:Int) (w:World):Calls Tryz.prog 157 #[.int .i64 a,.int .i64 b] w fun e w'=>e=.returned (.bool (flw true a b))∧w=w':=by
 have e:flw true a b=decide (a<b):=rfl;rw [e];go_enter Tryz.func157,Tryz.ntmps157;go_wp2;go_ret;exact ⟨rfl,rfl⟩
theorem falling_f (a b:Int) (w:World):Calls Tryz.prog 177 #[.int .i64 a,.int .i64 b] w fun e w'=>e=.returned (.bool (flw false a b))∧w=w':=by
 have e:flw false a b=decide (b<a):=rfl;rw [e];go_enter Tryz.func177,Tryz.ntmps177;go_wp2;go_ret;exact ⟨rfl,rfl⟩
theorem drop_cons {l:List (Int×Int)} {k:Nat} (hk:k<l.length):l.drop k=(l[k]?.getD (0,0)) :: l.drop (k+1):=by
 rw [List.drop_eq_getElem_cons hk,List.getElem?_eq_getElem hk];rfl
def pv (l:List (Int×Int)) (k:Nat):Option Int:=if k=0 then none else some (l[k-1]?.getD (0,0)).2
def ChkR (up:Bool) (w:World) (l:List (Int×Int)) (k:Nat) (wr:World) (f:Value):Prop :=
 chkFrom up none l=chkFrom up (pv l k) (l.drop k)∧Blk wr w.heap.size 146 #[f]∧Below w.heap.size w wr
theorem dcheck_up (A:Option Addr) (n c:Nat) (l:List (Int×Int)) (w:World) (h:StAt w A n l) (hm:n≤1000000000000) :
  Calls Tryz.prog 120 #[.agg #[.func (.func 157) #[] #[]],.slice A n c] w fun e w'=>e=.returned (.int .i64 (chk true l))∧Below w.heap.size w w':=by
 obtain ⟨hl,hf,hc⟩:=h;by_cases h0:n=0
 ·subst h0;have e:chk true l=4:=by unfold chk;rw [if_pos hl]
  rw [e];go_enter Tryz.func120,Tryz.ntmps120;go_wp2;go_ret;exact ⟨rfl,(Below.refl _ _).alloc (Nat.le_refl _) _⟩
 ·by_cases h3:3<n
  ·have e:chk true l=5:=by unfold chk;rw [if_neg (by omega),if_pos (by omega)]
   rw [e];have hn0:((n:Int) == 0)=false:=by simp;omega
   go_enter Tryz.func120,Tryz.ntmps120;go_wp2;go_ret;exact ⟨rfl,(Below.refl _ _).alloc (Nat.le_refl _) _⟩
  ·have e:chk true l=chkFrom true none l:=by unfold chk;rw [if_neg (by omega),if_neg (by omega)]
   rw [e];have hn0:((n:Int) == 0)=false:=by simp;omega
   have HL:=Hj hl;have HFT:=Hj hf;obtain ⟨b,o,rfl,hb,hcell⟩:=hc h0;have HC:=Hj hcell;clear e hl hf hc hcell;go_enter Tryz.func120,Tryz.ntmps120
   go_wp2_with fail
   have hst:ChkR true w l 0 (w.alloc (.cells #[.func (.func 157) #[] #[]] 146)) (.func (.func 157) #[] #[]):=⟨rfl,Blk.new _ _ _,(Below.refl _ _).alloc (Nat.le_refl _) _⟩;generalize w.alloc (.cells #[.func (.func 157) #[] #[]] 146)=W0 at *
   go_loopw [15] (fun t wr=>∃ k:Nat,k≤n∧t=.int .i64 k∧ChkR true w l k wr (.func (.func 157) #[] #[])) (fun t _=>n-(intOf t).toNat)
   case atStart=>exact ⟨0,Nat.zero_le _,rfl,hst⟩
   case round =>
    obtain ⟨k,hk,rfl,hR,hG,hB⟩:=hrel;have HR:=Hj hR;clear hst hR;by_cases hlt:k<n
    ·obtain ⟨ck,ck'⟩:=HC.out k hlt;have hck:=(hB.cell (p:=⟨b,o+k*2,none⟩) hb).trans ck;have hck':=(hB.cell (p:=⟨b,o+k*2+1,none⟩) hb).trans ck';have hdr:=drop_cons (l:=l) (k:=k) (by rw [HL.out];exact hlt);have hbr:b<wr.heap.size:=Nat.lt_of_lt_of_le hb hB.size;generalize hsp:l[k]?.getD (0,0)=sp at *;obtain ⟨q,p⟩:=sp;have HDR:=Hj hdr;have HSP:=Hj hsp;clear ck ck' hdr hsp;simp only at hck hck';obtain ⟨f0,-⟩:=hG.one;have hb9:=hB.alloc hB.size (.cells #[.int .i64 q,.int .i64 p] 107);have hG9:=hG.alloc (.cells #[.int .i64 q,.int .i64 p] 107);have f9:=(hG9.one).1;by_cases hbad:Bad q p
     ·have e:chkFrom true none l=1:=by rw [HR.out,HDR.out];exact chkFrom_bad hbad
      have E:=Hj e;have hb4:q<1∨(¬ q<1∧1000000<q)∨(¬ q<1∧¬ 1000000<q∧p < -1000000)∨(¬ q<1∧¬ 1000000<q∧¬ p < -1000000∧1000000<p):=by unfold Bad at hbad;omega
      clear e hbad;rcases hb4 with g1|⟨g1,g2⟩|⟨g1,g2,g3⟩|⟨g1,g2,g3,g4⟩
      all_goals
       go_wp2;go_ret;rw [E.out];exact ⟨rfl,hb9⟩
     ·have g1:¬ q<1:=by unfold Bad at hbad;omega
      have g2:¬ 1000000<q:=by unfold Bad at hbad;omega
      have g3:¬ p < -1000000:=by unfold Bad at hbad;omega
      have g4:¬ 1000000<p:=by unfold Bad at hbad;omega
      have HB:=Hj hbad;clear hbad;by_cases hk0:k=0
      ·subst hk0;have hd:decide ((0:Int)<((0:Nat):Int))=false:=by simp
       have hnew:chkFrom true none l=chkFrom true (some p) (l.drop (0+1)):=by
        rw [HR.out,HDR.out];exact chkFrom_first HB.out
       have HN:Hid (chkFrom true none l=chkFrom true (pv l (0+1)) (l.drop (0+1))):=by unfold Hid;rw [hnew];unfold pv;rw [if_neg (by omega)];rw [show 0+1-1=0 from rfl,HSP.out]
       clear hnew;simp only [Nat.zero_mul,Nat.add_zero] at hck hck'
       go_wp2_with fail
       go_quiet (fail)
       go_wp2;go_roundw
       case rel=>exact ⟨0+1,by omega,by go_num,HN.out,hG9,below_drewN hb9 _⟩
       case measure=>simp [intOf];omega
      ·obtain ⟨k,rfl⟩:∃ j,k=j+1:=⟨k-1,by omega⟩;obtain ⟨ck,ck'⟩:=HC.out k (by omega);have hcp:=(hb9.cell (p:=⟨b,o+k*2+1,none⟩) hb).trans ck';have hpv:pv l (k+1)=some (l[k]?.getD (0,0)).2:=by unfold pv;rw [if_neg (by omega)];rfl
       generalize hpe:(l[k]?.getD (0,0)).2=v at *;have hR2:chkFrom true none l=if flw true v p then chkFrom true (some p) (l.drop (k+1+1)) else 3:=by
        rw [HR.out,HDR.out,hpv];exact chkFrom_next HB.out
       have HR2:=Hj hR2;have HPV:Hid (pv l (k+1+1)=some p):=by unfold Hid pv;rw [if_neg (by omega)];rw [show k+1+1-1=k+1 from rfl,HSP.out]
       have hkp:(0:Int)<(k:Int)+1:=by omega
       have hkw:IntKind.i64.wrap ((k:Int)+1-1)=(k:Int):=by rw [show (k:Int)+1-1=k by omega];exact IntWalk.i64_in _ (by omega)
       have hkn:(k:Int)<(n:Int):=by omega
       have hk00:(0:Int)≤(k:Int):=by omega
       clear ck ck' hR2 hpv hpe hk0;cases hfl:flw true v p
       ·have e:chkFrom true none l=3:=by rw [HR2.out,hfl];rfl
        have E:=Hj e;clear e HR2;have T:=fun W=>rising_f v p W;rw [hfl] at T;have T:=Hj T;clear hfl
        go_wp2_with fail
        go_quiet ((go_at_call 157;exact quiet_left (T.out _)))
        go_wp2;go_ret;rw [E.out];exact ⟨rfl,below_drewN hb9 _⟩
       ·have e:chkFrom true none l=chkFrom true (pv l (k+1+1)) (l.drop (k+1+1)):=by rw [HR2.out,hfl,HPV.out];rfl
        have E:=Hj e;clear e HR2;have T:=fun W=>rising_f v p W;rw [hfl] at T;have T:=Hj T;clear hfl
        go_wp2_with fail
        go_quiet ((go_at_call 157;exact quiet_left (T.out _)))
        go_wp2;go_roundw
        case rel=>exact ⟨k+1+1,by omega,by go_num,E.out,hG9,below_drewN hb9 _⟩
        case measure=>simp [intOf];omega
    ·obtain rfl:k=n:=by omega
     have e:chkFrom true none l=0:=by rw [HR.out,List.drop_of_length_le (by rw [HL.out];exact Nat.le_refl _)];exact chkFrom_nil _ _
     have E:=Hj e;clear e;go_wp2;go_ret;rw [E.out];exact ⟨rfl,hB⟩
theorem dcheck_dn (A:Option Addr) (n c:Nat) (l:List (Int×Int)) (w:World) (h:StAt w A n l) (hm:n≤1000000000000) :
  Calls Tryz.prog 120 #[.agg #[.func (.func 177) #[] #[]],.slice A n c] w fun e w'=>e=.returned (.int .i64 (chk false l))∧Below w.heap.size w w':=by
 obtain ⟨hl,hf,hc⟩:=h;by_cases h0:n=0
 ·subst h0;have e:chk false l=4:=by unfold chk;rw [if_pos hl]
  rw [e];go_enter Tryz.func120,Tryz.ntmps120;go_wp2;go_ret;exact ⟨rfl,(Below.refl _ _).alloc (Nat.le_refl _) _⟩
 ·by_cases h3:3<n
  ·have e:chk false l=5:=by unfold chk;rw [if_neg (by omega),if_pos (by omega)]
   rw [e];have hn0:((n:Int) == 0)=false:=by simp;omega
   go_enter Tryz.func120,Tryz.ntmps120;go_wp2;go_ret;exact ⟨rfl,(Below.refl _ _).alloc (Nat.le_refl _) _⟩
  ·have e:chk false l=chkFrom false none l:=by unfold chk;rw [if_neg (by omega),if_neg (by omega)]
   rw [e];have hn0:((n:Int) == 0)=false:=by simp;omega
   have HL:=Hj hl;have HFT:=Hj hf;obtain ⟨b,o,rfl,hb,hcell⟩:=hc h0;have HC:=Hj hcell;clear e hl hf hc hcell;go_enter Tryz.func120,Tryz.ntmps120
   go_wp2_with fail
   have hst:ChkR false w l 0 (w.alloc (.cells #[.func (.func 177) #[] #[]] 146)) (.func (.func 177) #[] #[]):=⟨rfl,Blk.new _ _ _,(Below.refl _ _).alloc (Nat.le_refl _) _⟩;generalize w.alloc (.cells #[.func (.func 177) #[] #[]] 146)=W0 at *
   go_loopw [15] (fun t wr=>∃ k:Nat,k≤n∧t=.int .i64 k∧ChkR false w l k wr (.func (.func 177) #[] #[])) (fun t _=>n-(intOf t).toNat)
   case atStart=>exact ⟨0,Nat.zero_le _,rfl,hst⟩
   case round =>
    obtain ⟨k,hk,rfl,hR,hG,hB⟩:=hrel;have HR:=Hj hR;clear hst hR;by_cases hlt:k<n
    ·obtain ⟨ck,ck'⟩:=HC.out k hlt;have hck:=(hB.cell (p:=⟨b,o+k*2,none⟩) hb).trans ck;have hck':=(hB.cell (p:=⟨b,o+k*2+1,none⟩) hb).trans ck';have hdr:=drop_cons (l:=l) (k:=k) (by rw [HL.out];exact hlt);have hbr:b<wr.heap.size:=Nat.lt_of_lt_of_le hb hB.size;generalize hsp:l[k]?.getD (0,0)=sp at *;obtain ⟨q,p⟩:=sp;have HDR:=Hj hdr;have HSP:=Hj hsp;clear ck ck' hdr hsp;simp only at hck hck';obtain ⟨f0,-⟩:=hG.one;have hb9:=hB.alloc hB.size (.cells #[.int .i64 q,.int .i64 p] 107);have hG9:=hG.alloc (.cells #[.int .i64 q,.int .i64 p] 107);have f9:=(hG9.one).1;by_cases hbad:Bad q p
     ·have e:chkFrom false none l=1:=by rw [HR.out,HDR.out];exact chkFrom_bad hbad
      have E:=Hj e;have hb4:q<1∨(¬ q<1∧1000000<q)∨(¬ q<1∧¬ 1000000<q∧p < -1000000)∨(¬ q<1∧¬ 1000000<q∧¬ p < -1000000∧1000000<p):=by unfold Bad at hbad;omega
      clear e hbad;rcases hb4 with g1|⟨g1,g2⟩|⟨g1,g2,g3⟩|⟨g1,g2,g3,g4⟩
      all_goals
       go_wp2;go_ret;rw [E.out];exact ⟨rfl,hb9⟩
     ·have g1:¬ q<1:=by unfold Bad at hbad;omega
      have g2:¬ 1000000<q:=by unfold Bad at hbad;omega
      have g3:¬ p < -1000000:=by unfold Bad at hbad;omega
      have g4:¬ 1000000<p:=by unfold Bad at hbad;omega
      have HB:=Hj hbad;clear hbad;by_cases hk0:k=0
      ·subst hk0;have hd:decide ((0:Int)<((0:Nat):Int))=false:=by simp
       have hnew:chkFrom false none l=chkFrom false (some p) (l.drop (0+1)):=by
        rw [HR.out,HDR.out];exact chkFrom_first HB.out
       have HN:Hid (chkFrom false none l=chkFrom false (pv l (0+1)) (l.drop (0+1))):=by unfold Hid;rw [hnew];unfold pv;rw [if_neg (by omega)];rw [show 0+1-1=0 from rfl,HSP.out]
       clear hnew;simp only [Nat.zero_mul,Nat.add_zero] at hck hck'
       go_wp2_with fail
       go_quiet (fail)
       go_wp2;go_roundw
       case rel=>exact ⟨0+1,by omega,by go_num,HN.out,hG9,below_drewN hb9 _⟩
       case measure=>simp [intOf];omega
      ·obtain ⟨k,rfl⟩:∃ j,k=j+1:=⟨k-1,by omega⟩;obtain ⟨ck,ck'⟩:=HC.out k (by omega);have hcp:=(hb9.cell (p:=⟨b,o+k*2+1,none⟩) hb).trans ck';have hpv:pv l (k+1)=some (l[k]?.getD (0,0)).2:=by unfold pv;rw [if_neg (by omega)];rfl
       generalize hpe:(l[k]?.getD (0,0)).2=v at *;have hR2:chkFrom false none l=if flw false v p then chkFrom false (some p) (l.drop (k+1+1)) else 3:=by
        rw [HR.out,HDR.out,hpv];exact chkFrom_next HB.out
       have HR2:=Hj hR2;have HPV:Hid (pv l (k+1+1)=some p):=by unfold Hid pv;rw [if_neg (by omega)];rw [show k+1+1-1=k+1 from rfl,HSP.out]
       have hkp:(0:Int)<(k:Int)+1:=by omega
       have hkw:IntKind.i64.wrap ((k:Int)+1-1)=(k:Int):=by rw [show (k:Int)+1-1=k by omega];exact IntWalk.i64_in _ (by omega)
       have hkn:(k:Int)<(n:Int):=by omega
       have hk00:(0:Int)≤(k:Int):=by omega
       clear ck ck' hR2 hpv hpe hk0;cases hfl:flw false v p
       ·have e:chkFrom false none l=3:=by rw [HR2.out,hfl];rfl
        have E:=Hj e;clear e HR2;have T:=fun W=>falling_f v p W;rw [hfl] at T;have T:=Hj T;clear hfl
        go_wp2_with fail
        go_quiet ((go_at_call 177;exact quiet_left (T.out _)))
        go_wp2;go_ret;rw [E.out];exact ⟨rfl,below_drewN hb9 _⟩
       ·have e:chkFrom false none l=chkFrom false (pv l (k+1+1)) (l.drop (k+1+1)):=by rw [HR2.out,hfl,HPV.out];rfl
        have E:=Hj e;clear e HR2;have T:=fun W=>falling_f v p W;rw [hfl] at T;have T:=Hj T;clear hfl
        go_wp2_with fail
        go_quiet ((go_at_call 177;exact quiet_left (T.out _)))
        go_wp2;go_roundw
        case rel=>exact ⟨k+1+1,by omega,by go_num,E.out,hG9,below_drewN hb9 _⟩
        case measure=>simp [intOf];omega
    ·obtain rfl:k=n:=by omega
     have e:chkFrom false none l=0:=by rw [HR.out,List.drop_of_length_le (by rw [HL.out];exact Nat.le_refl _)];exact chkFrom_nil _ _
     have E:=Hj e;clear e;go_wp2;go_ret;rw [E.out];exact ⟨rfl,hB⟩
theorem rising_any (w:World):Calls Tryz.prog 119 #[] w fun e w'=>e=.returned (.agg #[.func (.func 157) #[] #[]])∧Below w.heap.size w w':=by
 go_enter Tryz.func119,Tryz.ntmps119;go_wp2;refine bodyPost_ret (v:=.agg #[.func (.func 157) #[] #[]]) ?_ rfl ⟨rfl,(Below.refl _ _).alloc (Nat.le_refl _) _⟩;simp [results,Tryz.results119,go_sem]
theorem checkOffer_any (A:Option Addr) (n c:Nat) (l:List (Int×Int)) (w:World) (h:StAt w A n l) (hm:n≤1000000000000) :
  Calls Tryz.prog 69 #[.slice A n c] w fun e w'=>e=.returned (.int .i64 (chk true l))∧Below w.heap.size w w':=by
 have T:=fun W hW=>dcheck_up A n c l W hW hm;generalize chk true l=x at *;have T:=Hj T;go_enter Tryz.func69,Tryz.ntmps69
 go_wp2_with fail
 refine (rising_any w).mono ?_;rintro e w1 ⟨rfl,hb1⟩
 go_wp2_with fail
 refine (T.out w1 (h.below hb1)).mono ?_;rintro e w2 ⟨rfl,hb2⟩;go_wp2;go_ret;exact ⟨rfl,hb1.trans (hb2.mono hb1.size)⟩
theorem falling_any (w:World):Calls Tryz.prog 126 #[] w fun e w'=>e=.returned (.agg #[.func (.func 177) #[] #[]])∧Below w.heap.size w w':=by
 go_enter Tryz.func126,Tryz.ntmps126;go_wp2;refine bodyPost_ret (v:=.agg #[.func (.func 177) #[] #[]]) ?_ rfl ⟨rfl,(Below.refl _ _).alloc (Nat.le_refl _) _⟩;simp [results,Tryz.results126,go_sem]
theorem checkBid_any (A:Option Addr) (n c:Nat) (l:List (Int×Int)) (w:World) (h:StAt w A n l) (hm:n≤1000000000000) :
  Calls Tryz.prog 73 #[.slice A n c] w fun e w'=>e=.returned (.int .i64 (chk false l))∧Below w.heap.size w w':=by
 have T:=fun W hW=>dcheck_dn A n c l W hW hm;generalize chk false l=x at *;have T:=Hj T;go_enter Tryz.func73,Tryz.ntmps73
 go_wp2_with fail
 refine (falling_any w).mono ?_;rintro e w1 ⟨rfl,hb1⟩
 go_wp2_with fail
 refine (T.out w1 (h.below hb1)).mono ?_;rintro e w2 ⟨rfl,hb2⟩;go_wp2;go_ret;exact ⟨rfl,hb1.trans (hb2.mono hb1.size)⟩
def curveE (l:List (Int×Int)):Int:=if chk false l=0 then 0 else chk true l
def qsum (l:List (Int×Int)):Int:=(l.map (·.1)).sum
def sumS (l:List (Int×Int)):Int:=if curveE l=0 then qsum l else 0
theorem chk_len {up:Bool} {l:List (Int×Int)} (h:chk up l=0):l.length≤3:=by
 unfold chk at h;split at h
 ·cases h
 ·split at h
  ·cases h
  ·omega
theorem chkFrom_ok {up:Bool} {l:List (Int×Int)}:∀ {prev:Option Int},chkFrom up prev l=0→∀ s∈l,¬ Bad s.1 s.2:=by
 induction l with
 | nil=>intro _ _ s hs;cases hs
 | cons x r ih =>
  intro prev h s hs;obtain ⟨q,p⟩:=x;by_cases hb:Bad q p
  ·rw [chkFrom_bad hb] at h;cases h
  ·cases prev with
   | none =>
    rw [chkFrom_first hb] at h;rcases List.mem_cons.1 hs with rfl|hs
    ·exact hb
    ·exact ih h s hs
   | some v =>
    rw [chkFrom_next hb] at h;split at h
    ·rcases List.mem_cons.1 hs with rfl|hs
     ·exact hb
     ·exact ih h s hs
    ·cases h
theorem chk_ok {up:Bool} {l:List (Int×Int)} (h:chk up l=0):l.length≠0∧l.length≤3∧chkFrom up none l=0∧∀ s∈l,¬ Bad s.1 s.2:=by
 have hl:=chk_len h;unfold chk at h;split at h
 ·cases h
 ·rw [if_neg (by omega)] at h;exact ⟨by assumption,hl,h,chkFrom_ok h⟩
theorem curve_ok {l:List (Int×Int)} (h:curveE l=0):l.length≠0∧l.length≤3∧∀ s∈l,¬ Bad s.1 s.2:=by
 unfold curveE at h;split at h
 ·rename_i h0
  obtain ⟨h1,h2,_,h3⟩:=chk_ok h0;exact ⟨h1,h2,h3⟩
 ·obtain ⟨h1,h2,_,h3⟩:=chk_ok h;exact ⟨h1,h2,h3⟩
theorem take_snocS {l:List (Int×Int)} {k:Nat} (hk:k<l.length):l.take (k+1)=l.take k ++ [l[k]?.getD (0,0)]:=by
 rw [List.take_succ_eq_append_getElem hk,List.getElem?_eq_getElem hk];rfl
theorem qsum_snoc (l:List (Int×Int)) (s:Int×Int):qsum (l ++ [s])=qsum l+s.1:=by
 unfold qsum;simp
theorem qsum_bd (l:List (Int×Int)) (h:∀ s∈l,¬ Bad s.1 s.2):0≤qsum l∧qsum l≤1000000*l.length:=by
 induction l with
 | nil=>simp [qsum]
 | cons x r ih =>
  have h1:=ih (fun s hs=>h s (List.mem_cons_of_mem _ hs));have h2:=h x (List.mem_cons_self ..);have e:qsum (x :: r)=x.1+qsum r:=by unfold qsum;simp
  rw [e,List.length_cons];unfold Bad at h2;omega
def NoInt (cs:Array Value):Prop:=∀ (i:Nat) (k:IntKind) (z:Int),cs[i]?≠some (.int k z)
theorem NoInt.four {a b:Bool} {A A':Option Addr} {n c n' c':Nat}:NoInt #[.bool a,.slice A n c,.bool b,.slice A' n' c']:=by
 intro i k z
 match i with
 | 0=>simp
 | 1=>simp
 | 2=>simp
 | 3=>simp
 | i+4=>simp
theorem NoInt.set {cs:Array Value} (h:NoInt cs) (i:Nat) (v:Value) (hv:∀ k z,v≠.int k z):NoInt (cs.setIfInBounds i v):=by
 intro j k z;rw [Array.getElem?_setIfInBounds];split
 ·split
  ·intro e;injection e with e;exact hv _ _ e
  ·simp
 ·exact h j k z
theorem Wat.setQ {w:World} {A:Option Addr} {n:Nat} {l:List Nat} {g:Nat} {t:TypeId} {cs:Array Value} (h:Wat w A n l) (hb:Blk w g t cs) (hn:NoInt cs) (i:Nat) (u:Value):Wat (w.setCell ⟨g,i,none⟩ u) A n l:=by
 refine ⟨h.1,h.2.1,fun hn0=>?_⟩;obtain ⟨b,o,rfl,hlt,hc⟩:=h.2.2 hn0;have hne:b≠g:=by
  intro e;subst e;have h0:=hc 0 (by omega);rw [hb.cell] at h0;exact hn _ _ _ h0
 refine ⟨b,o,rfl,by simpa [World.setCell] using hlt,fun j hj=>?_⟩;rw [World.cell?_of_block (w:=w) (Below.heap_setCell w _ u b (by simpa using hne))];exact hc j hj
def qst (w:World) (g o:Nat) (a b:Bool) (A A':Option Addr) (k c k' c':Nat):World :=
 (((w.setCell ⟨g,o,none⟩ (.bool a)).setCell ⟨g,o+1,none⟩ (.slice A k c)).setCell ⟨g,o+2,none⟩ (.bool b)).setCell ⟨g,o+3,none⟩ (.slice A' k' c')
def qput (cs:Array Value) (o:Nat) (a b:Bool) (A A':Option Addr) (k c k' c':Nat):Array Value :=
 (((cs.setIfInBounds o (.bool a)).setIfInBounds (o+1) (.slice A k c)).setIfInBounds (o+2) (.bool b)).setIfInBounds (o+3) (.slice A' k' c')
section
variable {w:World} {g o:Nat} {a b:Bool} {A A':Option Addr} {k c k' c':Nat} {cs:Array Value} {t:TypeId}
theorem NoInt.put4 (h:NoInt cs):NoInt (qput cs o a b A A' k c k' c') :=
 (((h.set o _ (by simp)).set (o+1) _ (by simp)).set (o+2) _ (by simp)).set (o+3) _ (by simp)
theorem Blk.put4 (h:Blk w g t cs):Blk (qst w g o a b A A' k c k' c') g t (qput cs o a b A A' k c k' c') :=
 (((h.set o _).set (o+1) _).set (o+2) _).set (o+3) _
theorem Blk.far4 {g':Nat} {t':TypeId} {cs':Array Value} (h:Blk w g' t' cs') (hne:g'≠g):Blk (qst w g o a b A A' k c k' c') g' t' cs' :=
 (((h.far (by simpa using hne) _).far (by simpa using hne) _).far (by simpa using hne) _).far (by simpa using hne) _
theorem Wat.put4 {B:Option Addr} {n:Nat} {l:List Nat} (hW:Wat w B n l) (h:Blk w g t cs) (hn:NoInt cs):Wat (qst w g o a b A A' k c k' c') B n l:=by
 have b1:=h.set o (.bool a);have n1:=hn.set o (.bool a) (by simp);have b2:=b1.set (o+1) (.slice A k c);have n2:=n1.set (o+1) (.slice A k c) (by simp);have b3:=b2.set (o+2) (.bool b);have n3:=n2.set (o+2) (.bool b) (by simp);exact (((hW.setQ h hn _ _).setQ b1 n1 _ _).setQ b2 n2 _ _).setQ b3 n3 _ _
theorem below_qst {B:Nat} {w0:World} (h:Below B w0 w) (hg:B≤g):Below B w0 (qst w g o a b A A' k c k' c') :=
 (((h.setCell (p:=⟨g,o,none⟩) hg _).setCell (p:=⟨g,o+1,none⟩) hg _).setCell (p:=⟨g,o+2,none⟩) hg _).setCell (p:=⟨g,o+3,none⟩) hg _
theorem qput_size:(qput cs o a b A A' k c k' c').size=cs.size:=by simp [qput]
theorem qput_same (h:o+3<cs.size):(qput cs o a b A A' k c k' c')[o]?=some (.bool a)∧(qput cs o a b A A' k c k' c')[o+1]?=some (.slice A k c)∧(qput cs o a b A A' k c k' c')[o+2]?=some (.bool b)∧(qput cs o a b A A' k c k' c')[o+3]?=some (.slice A' k' c'):=by
 unfold qput;refine ⟨?_,?_,?_,?_⟩<;>simp [Array.getElem?_setIfInBounds]<;>omega
theorem qput_other {j:Nat} (h:j<o∨o+3<j):(qput cs o a b A A' k c k' c')[j]?=cs[j]?:=by
 unfold qput;rw [Array.getElem?_setIfInBounds_ne (by omega),Array.getElem?_setIfInBounds_ne (by omega),Array.getElem?_setIfInBounds_ne (by omega),Array.getElem?_setIfInBounds_ne (by omega)]
end
def QRow (w:World) (g n:Nat) (ps:List Rat):Prop :=
 ps.length=n∧∃ cs,Blk w g 42 cs∧NoInt cs∧cs.size=n*4∧∀ j,j<n→∃ A k c A' k' c',
  cs[j*4]?=some (.bool (decide ((ps[j]?.getD 0).num<0)))∧cs[j*4+1]?=some (.slice A k c)∧cs[j*4+2]?=some (.bool false)∧cs[j*4+3]?=some (.slice A' k' c') ∧
  k≤c∧k'≤c'∧Wat w A k (digs (ps[j]?.getD 0).num.natAbs)∧Wat w A' k' (denW (ps[j]?.getD 0).den)
theorem QRow.below {w w':World} {g n:Nat} {ps:List Rat} (h:QRow w g n ps) (hb:Below w.heap.size w w'):QRow w' g n ps:=by
 obtain ⟨h1,cs,h2,h3,h4,h5⟩:=h;refine ⟨h1,cs,h2.below hb h2.lt,h3,h4,fun j hj=>?_⟩;obtain ⟨A,k,c,A',k',c',e1,e2,e3,e4,e5,e6,e7,e8⟩:=h5 j hj;exact ⟨A,k,c,A',k',c',e1,e2,e3,e4,e5,e6,e7.below hb,e8.below hb⟩
theorem QRow.put {w:World} {g n i:Nat} {ps:List Rat} {q:Rat} {A A':Option Addr} {k c k' c':Nat} (h:QRow w g n ps) (hi:i<n) (hk:k≤c) (hk':k'≤c') (hW:Wat w A k (digs q.num.natAbs)) (hW':Wat w A' k' (denW q.den)) :
  QRow (qst w g (i*4) (decide (q.num<0)) false A A' k c k' c') g n (ps.set i q):=by
 obtain ⟨h1,cs,h2,h3,h4,h5⟩:=h;refine ⟨by simpa using h1,_,h2.put4,h3.put4,by rw [qput_size,h4],fun j hj=>?_⟩;by_cases hji:j=i
 ·subst hji;have e:((ps.set j q)[j]?.getD 0)=q:=by simp [h1,hj]
  rw [e];obtain ⟨p1,p2,p3,p4⟩:=qput_same (cs:=cs) (o:=j*4) (a:=decide (q.num<0)) (b:=false) (A:=A) (A':=A') (k:=k) (c:=c) (k':=k') (c':=c') (by omega);exact ⟨A,k,c,A',k',c',p1,p2,p3,p4,hk,hk',hW.put4 h2 h3,hW'.put4 h2 h3⟩
 ·have e:((ps.set i q)[j]?.getD 0)=(ps[j]?.getD 0):=by rw [List.getElem?_set_ne (Ne.symm hji)]
  rw [e];obtain ⟨B,m,d,B',m',d',e1,e2,e3,e4,e5,e6,e7,e8⟩:=h5 j hj;refine ⟨B,m,d,B',m',d',?_,?_,?_,?_,e5,e6,e7.put4 h2 h3,e8.put4 h2 h3⟩
  ·rw [qput_other (by omega)];exact e1
  ·rw [qput_other (by omega)];exact e2
  ·rw [qput_other (by omega)];exact e3
  ·rw [qput_other (by omega)];exact e4
theorem QRow.far4 {w:World} {g g' n o:Nat} {ps:List Rat} {a b:Bool} {A A':Option Addr} {k c k' c':Nat} {t:TypeId} {cs:Array Value} (h:QRow w g n ps) (hne:g≠g') (hb:Blk w g' t cs) (hn:NoInt cs) :
  QRow (qst w g' o a b A A' k c k' c') g n ps:=by
 obtain ⟨h1,cs',h2,h3,h4,h5⟩:=h;refine ⟨h1,cs',h2.far4 hne,h3,h4,fun j hj=>?_⟩;obtain ⟨B,m,d,B',m',d',e1,e2,e3,e4,e5,e6,e7,e8⟩:=h5 j hj;exact ⟨B,m,d,B',m',d',e1,e2,e3,e4,e5,e6,e7.put4 hb hn,e8.put4 hb hn⟩
theorem QAt.put4 {w:World} {Nn Nd:Nat} {neg neg':Bool} {B B':Option Addr} {n d n' d':Nat} {q:Rat} {g o:Nat} {a b:Bool} {A A':Option Addr} {k c k' c':Nat} {t:TypeId} {cs:Array Value} (h:QAt Nn Nd w neg B n d neg' B' n' d' q) (hb:Blk w g t cs) (hn:NoInt cs) :
  QAt Nn Nd (qst w g o a b A A' k c k' c') neg B n d neg' B' n' d' q:=by
 obtain ⟨na,da,⟨l,l',h1,h2,h3⟩,h4⟩:=h;exact ⟨na,da,⟨l,l',h1.put4 hb hn,h2.put4 hb hn,h3⟩,h4⟩
def lessQ (r:Rat) (a:Int):Rat:=if (a:Rat)<r then (a:Rat) else r
def restAt (l:List (Int×Int)) (q:Rat):Nat→Rat
 | 0=>q
 | k+1=>restAt l q k-lessQ (restAt l q k) (l[k]?.getD (0,0)).1
def partAt (l:List (Int×Int)) (q:Rat) (k:Nat):Rat:=lessQ (restAt l q k) (l[k]?.getD (0,0)).1
theorem sub_whole (r:Rat) (a:Int):(r-(a:Rat)).num=r.num-a*r.den∧(r-(a:Rat)).den=r.den:=by
 have hd:=r.den_nz;have e0:r-(a:Rat)=mkRat (r.num-a*r.den) r.den:=by
  have e1:r=mkRat r.num r.den:=(Rat.mkRat_self r).symm;have e2:(a:Rat)=mkRat a 1:=by rw [Rat.mkRat_one]
  have:=rat_sub r.num a (r.den:Int) 1 (by omega) (by omega);simp only [Int.natAbs_natCast,Int.mul_one] at this;rw [show (1:Int).natAbs=1 from rfl,← e1,← e2] at this;exact this
 have hg:Nat.gcd (r.num-a*r.den).natAbs r.den=1:=by
  have h1:Nat.gcd r.num.natAbs r.den=1:=r.reduced;have h2:Int.gcd (r.num-a*r.den) r.den=Int.gcd r.num r.den:=by
   rw [Int.sub_eq_add_neg,← Int.neg_mul,Int.mul_comm (-a),Int.gcd_add_mul_left_left]
  exact h2.trans h1
 rw [e0,mk_num _ _ hd,mk_den _ _ hd,hg];simp
theorem rest_bd {r:Rat} {a:Int} {Nn Nd:Nat} (h0:0≤r) (ha:0≤a) (hn:r.num.natAbs<Nn) (hd:r.den<Nd) :
  0≤r-lessQ r a∧(r-lessQ r a).num.natAbs<Nn∧(r-lessQ r a).den<Nd:=by
 have hdp:=r.den_pos;unfold lessQ;split
 ·rename_i hlt
  obtain ⟨e1,e2⟩:=sub_whole r a;have h1:0≤r-(a:Rat):=by grind
  have h2:0≤(r-(a:Rat)).num:=Rat.num_nonneg.2 h1;have h3:0≤r.num:=Rat.num_nonneg.2 h0;refine ⟨h1,?_,by rw [e2];exact hd⟩;have h4:0≤a*r.den:=Int.mul_nonneg ha (by omega);rw [e1] at h2 ⊢;omega
 ·have e:r-r=0:=by grind
  rw [e];refine ⟨Rat.le_refl,?_,?_⟩
  ·show 0<Nn;omega
  ·show 1<Nd;omega
theorem restAt_bd {l:List (Int×Int)} {q:Rat} {Nn Nd:Nat} (h0:0≤q) (hok:∀ s∈l,¬ Bad s.1 s.2) (hn:q.num.natAbs<Nn) (hd:q.den<Nd):∀ k,k≤l.length→0≤restAt l q k∧(restAt l q k).num.natAbs<Nn∧(restAt l q k).den<Nd
 | 0,_=>⟨h0,hn,hd⟩
 | k+1,hk=>by
  obtain ⟨i1,i2,i3⟩:=restAt_bd h0 hok hn hd k (by omega);have hm:(l[k]?.getD (0,0))∈l:=by rw [List.getElem?_eq_getElem (by omega)];exact List.getElem_mem _
  have hb:=hok _ hm;unfold Bad at hb;exact rest_bd i1 (by omega) i2 i3
theorem QAt.bd {Nn Nd:Nat} {w:World} {neg neg':Bool} {A A':Option Addr} {n c n' c':Nat} {q:Rat} (h:QAt Nn Nd w neg A n c neg' A' n' c' q):q.num.natAbs<Nn∧q.den<Nd:=by
 obtain ⟨na,da,_,h1,h2,rfl⟩:=h;have hp:=qden_pos da;rw [mk_num _ _ (by omega),mk_den _ _ (by omega)];refine ⟨?_,Nat.lt_of_le_of_lt (Nat.div_le_self _ _) h2⟩;rw [Int.natAbs_tdiv];exact Nat.lt_of_le_of_lt (Nat.div_le_self _ _) h1
theorem info_Q:(Tryz.prog.info? 42).map (fun i=>(i.zero,i.size,i.bytes))=some (some (.agg #[.bool false,.slice none 0 0,.bool false,.slice none 0 0]),4,64):=by kernel_rfl
def qzero:Array Value:=#[.bool false,.slice none 0 0,.bool false,.slice none 0 0]
theorem run_make_Q (k:Nat) (hk:k≤1000000000) (w:World) :
  (Instr.makeSlice 46 (.int .i64 (k:Int)) (.int .i64 (k:Int))).run Tryz.prog w=.ok (.slice (some ⟨w.heap.size,0,none⟩) k k) (w.alloc (.cells (madeCells qzero (k*4)) 42)):=by
 obtain ⟨i0,hi,hz0,hz1,hz2⟩:=info_parts info_Q;have h:=run_make (P:=Tryz.prog) w 46 42 i0 _ Tryz.underlying46 hi hz0 .i64 .i64 k k (by omega) (Int.le_refl _) (by rw [hz2];omega) (by omega);rw [h,hz1];simp only [Int.toNat_natCast,Value.cells]
 rfl
theorem made_get (n i:Nat) (h:i<n):(madeCells qzero n)[i]?=some (qzero[i % 4]!):=by
 simp [madeCells,h,qzero]
theorem made_noInt (n:Nat):NoInt (madeCells qzero n):=by
 intro i k z;by_cases h:i<n
 ·rw [made_get n i h];have h4:i % 4<4:=Nat.mod_lt _ (by omega);generalize i % 4=m at *
  match m,h4 with
  | 0,_=>simp [qzero]
  | 1,_=>simp [qzero]
  | 2,_=>simp [qzero]
  | 3,_=>simp [qzero]
 ·rw [Array.getElem?_eq_none (by rw [size_madeCells];omega)];simp
theorem QRow.start (w:World) (n:Nat):QRow (w.alloc (.cells (madeCells qzero (n*4)) 42)) w.heap.size n (List.replicate n 0):=by
 refine ⟨by simp,_,Blk.new _ _ _,made_noInt _,size_madeCells _ _,fun j hj=>?_⟩;have e:((List.replicate n (0:Rat))[j]?.getD 0)=0:=by simp [hj]
 rw [e];refine ⟨none,0,0,none,0,0,?_,?_,?_,?_,Nat.le_refl _,Nat.le_refl _,?_,?_⟩
 ·rw [made_get _ _ (by omega),show j*4 % 4=0 by omega];rfl
 ·rw [made_get _ _ (by omega),show (j*4+1) % 4=1 by omega];rfl
 ·rw [made_get _ _ (by omega),show (j*4+2) % 4=2 by omega];rfl
 ·rw [made_get _ _ (by omega),show (j*4+3) % 4=3 by omega];rfl
 ·show Wat _ none 0 (digs 0);rw [digs_zero];exact Wat.nil
 ·show Wat _ none 0 [];exact Wat.nil
theorem qless_any (M Nn Nd:Nat) (HO:WOK M) (hnm:Nn≤M) (hdm:Nd≤M) {w:World} {an an':Bool} {aA aA' bA bA':Option Addr} {ak ac ak' ac' bk bc bk' bc':Nat} {r:Rat} {a:Int}
  (ha:QAt Nn Nd w an aA ak ac an' aA' ak' ac' r) (hk:bk≤bc) (hk':bk'≤bc') (hW:Wat w bA bk (digs ((a:Int):Rat).num.natAbs)) (hW':Wat w bA' bk' (denW ((a:Int):Rat).den)) (h1:a.natAbs<Nn) (h2:1<Nd) (h3:Nn≤M) :
  Calls Tryz.prog 85 #[.agg #[.bool an,.slice aA ak ac,.bool an',.slice aA' ak' ac'],.agg #[.bool (decide (((a:Int):Rat).num<0)),.slice bA bk bc,.bool false,.slice bA' bk' bc']] w (RetQ w (lessQ r a)):=by
 have hl:bk≤10000000000:=by
  rw [← hW.1,show ((a:Int):Rat).num=a from rfl];exact HO.len _ (by omega)
 have hl':bk'≤10000000000:=by
  rw [← hW'.1,show ((a:Int):Rat).den=1 from rfl];simp [denW]
 exact qmin_any M Nn Nd HO hnm hdm an an' _ false aA aA' bA bA' ak ac ak' ac' bk bc bk' bc' r (a:Rat) w ha (qat_canon hk hk' hW hW' hl hl' h1 h2)
def RGB (g:Nat) (t:TypeId) (W w':World):Prop:=W.grownBy w' (some g)∧∃ cs,Blk w' g t cs
section
variable {g:Nat} {t:TypeId} {W w w':World}
theorem RGB.start {cs:Array Value} (h:Blk W g t cs):RGB g t W W:=⟨⟨rfl,rfl,rfl,Nat.le_refl _,fun _ _ _=>rfl⟩,cs,h⟩
theorem RGB.drew (h:RGB g t W w):RGB g t W w.drew:=⟨⟨h.1.os,h.1.tape,h.1.output,h.1.size,h.1.block⟩,h.2⟩
theorem RGB.call (h:RGB g t W w) (hb:Below w.heap.size w w'):RGB g t W w':=by
 obtain ⟨h1,cs,h2⟩:=h;exact ⟨⟨hb.os.trans h1.os,hb.tape.trans h1.tape,hb.output.trans h1.output,Nat.le_trans h1.size hb.size,fun k hk hne=>(hb.block k (Nat.lt_of_lt_of_le hk h1.size)).trans (h1.block k hk hne)⟩,cs,h2.below hb h2.lt⟩
theorem RGB.set (h:RGB g t W w) (o1 o2 o3 o4:Nat) (a b c d:Value):RGB g t W ((((w.setCell ⟨g,o1,none⟩ a).setCell ⟨g,o2,none⟩ b).setCell ⟨g,o3,none⟩ c).setCell ⟨g,o4,none⟩ d):=by
 obtain ⟨h1,cs,h2⟩:=h;refine ⟨⟨h1.os,h1.tape,h1.output,by simpa [World.setCell] using h1.size,fun k hk hne=>?_⟩,_,(((h2.set o1 a).set o2 b).set o3 c).set o4 d⟩;have hkg:k≠g:=fun e=>hne (by rw [e]);rw [Below.heap_setCell _ _ _ _ (by simpa using hkg),Below.heap_setCell _ _ _ _ (by simpa using hkg),Below.heap_setCell _ _ _ _ (by simpa using hkg),Below.heap_setCell _ _ _ _ (by simpa using hkg)];exact h1.block k hk hne
theorem RGB.blk {g':Nat} {t':TypeId} {cs:Array Value} (h:RGB g t W w) (hg:Blk W g' t' cs) (hne:g'≠g):Blk w g' t' cs:=(h.1.block g' hg.lt (fun e=>hne (by injection e))).trans hg
end
theorem QRow.cells {w:World} {g n:Nat} {ps:List Rat} (h:QRow w g n ps) {j:Nat} (hj:j<n):∃ A k c A' k' c',
  w.cell? ⟨g,j*4,none⟩=some (.bool (decide ((ps[j]?.getD 0).num<0)))∧w.cell? ⟨g,j*4+1,none⟩=some (.slice A k c)∧w.cell? ⟨g,j*4+2,none⟩=some (.bool false)∧w.cell? ⟨g,j*4+3,none⟩=some (.slice A' k' c') ∧
  w.frozen? ⟨g,j*4,none⟩=false∧w.frozen? ⟨g,j*4+1,none⟩=false∧w.frozen? ⟨g,j*4+2,none⟩=false∧w.frozen? ⟨g,j*4+3,none⟩=false ∧
  k≤c∧k'≤c'∧Wat w A k (digs (ps[j]?.getD 0).num.natAbs)∧Wat w A' k' (denW (ps[j]?.getD 0).den):=by
 obtain ⟨_,cs,hb,_,_,hc⟩:=h;obtain ⟨A,k,c,A',k',c',e1,e2,e3,e4,e5,e6,e7,e8⟩:=hc j hj;exact ⟨A,k,c,A',k',c',(hb.cell _).trans e1,(hb.cell _).trans e2,(hb.cell _).trans e3,(hb.cell _).trans e4,hb.frozen _,hb.frozen _,hb.frozen _,hb.frozen _,e5,e6,e7,e8⟩
def AllR (w:World) (Nn Nd g n:Nat) (l:List (Int×Int)) (q:Rat) (k:Nat) (ps:List Rat) (bn:Bool) (bA:Option Addr) (bk bc:Nat) (bn':Bool) (bA':Option Addr) (bk' bc':Nat) (wr:World):Prop :=
 Below w.heap.size w wr∧Blk wr g 42 #[.bool bn,.slice bA bk bc,.bool bn',.slice bA' bk' bc']∧QAt Nn Nd wr bn bA bk bc bn' bA' bk' bc' (restAt l q k)∧QRow wr (g+1) n ps∧∀ j,j<k→ps[j]?.getD 0=partAt l q j
theorem qat_len {M Nn Nd:Nat} (HO:WOK M) (hnm:Nn≤M) (hdm:Nd≤M) {w:World} {A A':Option Addr} {k c k' c':Nat} {q:Rat} (hk:k≤c) (hk':k'≤c') (hW:Wat w A k (digs q.num.natAbs)) (hW':Wat w A' k' (denW q.den)) (hn:q.num.natAbs<Nn) (hd:q.den<Nd) :
  QAt Nn Nd w (decide (q.num<0)) A k c false A' k' c' q:=by
 refine qat_canon hk hk' hW hW' ?_ ?_ hn hd
 ·rw [← hW.1];exact HO.len _ (by omega)
 ·rw [← hW'.1];unfold denW;split
  ·simp
  ·exact HO.len _ (by omega)
theorem partAt_bd {l:List (Int×Int)} {q:Rat} {Nn Nd:Nat} (h0:0≤q) (hok:∀ s∈l,¬ Bad s.1 s.2) (hn:q.num.natAbs<Nn) (hd:q.den<Nd) (hN:3000000<Nn) (hD:1<Nd) {k:Nat} (hk:k<l.length):(partAt l q k).num.natAbs<Nn∧(partAt l q k).den<Nd:=by
 obtain ⟨i1,i2,i3⟩:=restAt_bd h0 hok hn hd k (by omega);have hm:(l[k]?.getD (0,0))∈l:=by rw [List.getElem?_eq_getElem (by omega)];exact List.getElem_mem _
 have hb:=hok _ hm;unfold Bad at hb;unfold partAt lessQ;split
 ·refine ⟨?_,hD⟩;show (l[k]?.getD (0,0)).1.natAbs<Nn;omega
 ·exact ⟨i2,i3⟩
end Go.Proofs.YtjajigkacccdgaaGreat
namespace Go.Proofs.YtjajigkacccdgaaGreat
open Go.RowKit
open Wd
attribute [local go_sem ↓] Go.wp_at_zero Go.wp_at_succ
def CQ (base:Nat) (w:World) (q:Rat) (A:Option Addr) (k c:Nat) (A':Option Addr) (k' c':Nat):Prop :=
 k≤c∧k'≤c'∧Wat w A k (digs q.num.natAbs)∧Wat w A' k' (denW q.den)∧Fresh base w A k∧Fresh base w A' k'
section
variable {base base':Nat} {w w':World} {q:Rat} {A A':Option Addr} {k c k' c':Nat}
theorem CQ.below (h:CQ base w q A k c A' k' c') (hb:Below w.heap.size w w'):CQ base w' q A k c A' k' c':=by
 obtain ⟨h1,h2,h3,h4,h5,h6⟩:=h;exact ⟨h1,h2,h3.below hb,h4.below hb,h5.keep h3 hb,h6.keep h4 hb⟩
theorem CQ.put4 {g o:Nat} {a b:Bool} {B B':Option Addr} {j d j' d':Nat} {t:TypeId} {cs:Array Value} (h:CQ base w q A k c A' k' c') (hb:Blk w g t cs) (hn:NoInt cs):CQ base (qst w g o a b B B' j d j' d') q A k c A' k' c':=by
 obtain ⟨h1,h2,h3,h4,h5,h6⟩:=h;exact ⟨h1,h2,h3.put4 hb hn,h4.put4 hb hn,(((h5.set _ _).set _ _).set _ _).set _ _,(((h6.set _ _).set _ _).set _ _).set _ _⟩
theorem CQ.zero:CQ base w 0 none 0 0 none 0 0:=by
 refine ⟨Nat.le_refl _,Nat.le_refl _,?_,Wat.nil,Fresh.nil,Fresh.nil⟩;show Wat _ none 0 (digs 0);rw [digs_zero];exact Wat.nil
theorem CQ.at {M Nn Nd:Nat} (h:CQ base w q A k c A' k' c') (HO:WOK M) (hnm:Nn≤M) (hdm:Nd≤M) (hn:q.num.natAbs<Nn) (hd:q.den<Nd):QAt Nn Nd w (decide (q.num<0)) A k c false A' k' c' q :=
 qat_len HO hnm hdm h.1 h.2.1 h.2.2.1 h.2.2.2.1 hn hd
end
def costAt (l:List (Int×Int)) (q:Rat):Nat→Rat
 | 0=>0
 | k+1=>costAt l q k+partAt l q k*(((l[k]?.getD (0,0)).2:Int):Rat)
structure CostOK (M Nn Nd Cn Cd:Nat) (l:List (Int×Int)) (q:Rat):Prop where
 hn:3000000<Nn
 hn2:Nn≤M
 hd:1<Nd
 nn:Nn*Nn≤M
 dd:Nd*Nd≤M
 nd:2*(Nn*Nd)≤M
 nm:Nn≤M
 dm:Nd≤M
 cnd:2*(Cn*Cd)≤M
 cdd:Cd*Cd≤M
 cn:Cn≤M
 cd:Cd≤M
 sum:∀ k,k≤l.length→(costAt l q k).num.natAbs<Cn∧(costAt l q k).den<Cd
 prod:∀ k,k<l.length→(partAt l q k*(((l[k]?.getD (0,0)).2:Int):Rat)).num.natAbs<Cn∧(partAt l q k*(((l[k]?.getD (0,0)).2:Int):Rat)).den<Cd
def CstR (w:World) (g gr n:Nat) (l:List (Int×Int)) (q:Rat) (ps:List Rat) (k:Nat) (A:Option Addr) (j c:Nat) (A':Option Addr) (j' c':Nat) (wr:World):Prop :=
 Below w.heap.size w wr∧Blk wr g 42 #[.bool (decide ((costAt l q k).num<0)),.slice A j c,.bool false,.slice A' j' c']∧CQ w.heap.size wr (costAt l q k) A j c A' j' c'∧QRow wr gr n ps
def CstPost (w:World) (r:Rat) (e:Ending) (w':World):Prop :=
 ∃ A k c A' k' c',e=.returned (.tuple #[.agg #[.bool (decide (r.num<0)),.slice A k c,.bool false,.slice A' k' c'],.int .i64 0])∧CQ w.heap.size w' r A k c A' k' c'∧Below w.heap.size w w'
end Go.Proofs.YtjajigkacccdgaaGreat
