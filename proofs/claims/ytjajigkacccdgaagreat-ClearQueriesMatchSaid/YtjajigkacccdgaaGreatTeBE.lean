/-
Lemmas of the walk; no further conditions.
-/
import Derived.Test.YtjajigkacccdgaaGreatTeBB
set_option linter.unusedVariables false
set_option linter.unusedSimpArgs false
set_option maxRecDepth 100000
set_option maxHeartbeats 16000000
namespace Go.Proofs.YtjajigkacccdgaaGreat
open Go.RowKit
open Wd
theorem rmany_any (A:Option Addr) (n c:Nat) (w:World):Calls Tryz.prog 117 #[.slice A n c] w fun e w'=>e=.returned (.int .i64 (if n=0 then 4 else if 3<n then 5 else 0))∧w=w':=by
 by_cases h0:n=0
 ·subst h0;rw [if_pos rfl];go_enter Tryz.func117,Tryz.ntmps117;go_wp2;go_ret;exact ⟨rfl,rfl⟩
 ·rw [if_neg h0];have d0:((n:Int) == 0)=false:=by simp;omega
  by_cases h3:3<n
  ·rw [if_pos h3];have d1:decide ((3:Int)<(n:Int))=true:=by simp;omega
   go_enter Tryz.func117,Tryz.ntmps117;go_wp2;go_ret;exact ⟨rfl,rfl⟩
  ·rw [if_neg h3];have d1:decide ((3:Int)<(n:Int))=false:=by simp;omega
   go_enter Tryz.func117,Tryz.ntmps117;go_wp2;go_ret;exact ⟨rfl,rfl⟩
theorem rown_bad (q p:Int) (w:World) (h:Bad q p):Calls Tryz.prog 118 #[.agg #[.int .i64 q,.int .i64 p]] w fun e w'=>e=.returned (.int .i64 1)∧Below w.heap.size w w':=by
 have hb4:q<1∨(¬ q<1∧1000000<q)∨(¬ q<1∧¬ 1000000<q∧p < -1000000)∨(¬ q<1∧¬ 1000000<q∧¬ p < -1000000∧1000000<p):=by unfold Bad at h;omega
 clear h;rcases hb4 with g1|⟨g1,g2⟩|⟨g1,g2,g3⟩|⟨g1,g2,g3,g4⟩
 all_goals
  go_enter Tryz.func118,Tryz.ntmps118;go_wp2;go_ret;exact ⟨rfl,(Below.refl _ _).alloc (Nat.le_refl _) _⟩
theorem rown_ok (q p:Int) (w:World) (h:¬ Bad q p):Calls Tryz.prog 118 #[.agg #[.int .i64 q,.int .i64 p]] w fun e w'=>e=.returned (.int .i64 0)∧Below w.heap.size w w':=by
 have g1:¬ q<1:=by unfold Bad at h;omega
 have g2:¬ 1000000<q:=by unfold Bad at h;omega
 have g3:¬ p < -1000000:=by unfold Bad at h;omega
 have g4:¬ 1000000<p:=by unfold Bad at h;omega
 clear h;go_enter Tryz.func118,Tryz.ntmps118;go_wp2;go_ret;exact ⟨rfl,(Below.refl _ _).alloc (Nat.le_refl _) _⟩
def RchR (up:Bool) (l:List (Int×Int)) (k:Nat) (x:Int):Prop:=(x=0∧chkFrom up none l=chkFrom up (pv l k) (l.drop k))∨(x≠0∧chkFrom up none l=x)
theorem rcheck_up (A:Option Addr) (n c:Nat) (l:List (Int×Int)) (w:World) (h:StAt w A n l) :
  Calls Tryz.prog 65 #[.slice A n c] w fun e w'=>e=.returned (.int .i64 (chk true l))∧Below w.heap.size w w':=by
 obtain ⟨hl,hf,hc⟩:=h;have TM:=rmany_any A n c w;by_cases h0:n=0
 ·subst h0;have e:chk true l=4:=by unfold chk;rw [if_pos hl]
  rw [e];rw [if_pos rfl] at TM;have HT:=Hj TM;clear TM hl hc hf e;go_enter Tryz.func65,Tryz.ntmps65
  go_wp2_with fail
  refine HT.out.mono ?_;rintro e w1 ⟨rfl,rfl⟩
  go_wp2_with fail
  refine wp_loop_rounds 1 ?_;rw [rounds_succ];go_wp2;go_ret;exact ⟨rfl,Below.refl _ _⟩
 ·rw [if_neg h0] at TM;by_cases h3:3<n
  ·have e:chk true l=5:=by unfold chk;rw [if_neg (by omega),if_pos (by omega)]
   rw [e];rw [if_pos h3] at TM;have HT:=Hj TM;have hnp:(0:Int)<(n:Int):=by omega
   have hnp':0<n:=by omega
   clear TM hl hc hf e;go_enter Tryz.func65,Tryz.ntmps65
   go_wp2_with fail
   refine HT.out.mono ?_;rintro e w1 ⟨rfl,rfl⟩
   go_wp2_with fail
   refine wp_loop_rounds 1 ?_;rw [rounds_succ];go_wp2;go_ret;exact ⟨rfl,Below.refl _ _⟩
  ·have e : chk true l=chkFrom true none l:=by unfold chk;rw [if_neg (by omega),if_neg (by omega)]
   rw [e];rw [if_neg h3] at TM;have HT:=Hj TM;have HL:=Hj hl;obtain ⟨b,o,rfl,hb,hcell⟩:=hc h0;have HC:=Hj hcell;clear e hl hf hc hcell TM;go_enter Tryz.func65,Tryz.ntmps65
   go_wp2_with fail
   refine HT.out.mono ?_;rintro e w1 ⟨rfl,rfl⟩;clear HT
   go_wp2_with fail
   go_loopw [3,4] (fun t3 t wr=>∃ (k:Nat) (x:Int),k≤n∧t=.int .i64 k∧t3=.int .i64 x∧Hid (RchR true l k x)∧Hid (Below w.heap.size w wr)) (fun t3 t _=>2*(n-(intOf t).toNat)+(if (intOf t3)=0 then 1 else 0))
   case atStart=>exact ⟨0,0,Nat.zero_le _,rfl,rfl,Or.inl ⟨rfl,rfl⟩,Below.refl _ _⟩
   case round =>
    obtain ⟨k,x,hk,rfl,rfl,hR,hB'⟩:=hrel;have hB:=hB'.out;by_cases hx:x=0
    ·subst hx;have hR0:chkFrom true none l=chkFrom true (pv l k) (l.drop k):=by
      rcases hR.out with ⟨_,hh⟩|⟨hh,_⟩
      ·exact hh
      ·exact absurd rfl hh
     have HR:=Hj hR0;clear hR hR0;by_cases hlt:k<n
     ·obtain ⟨ck,ck'⟩:=HC.out k hlt;have hck:=(hB.cell (p:=⟨b,o+k*2,none⟩) hb).trans ck;have hck':=(hB.cell (p:=⟨b,o+k*2+1,none⟩) hb).trans ck';have hdr:=drop_cons (l:=l) (k:=k) (by rw [HL.out];exact hlt);have hbr:b<wr.heap.size:=Nat.lt_of_lt_of_le hb hB.size;have hki1:(0:Int)≤(k:Int):=by omega
      have hki2:(k:Int)<(n:Int):=by omega
      generalize hsp:l[k]?.getD (0,0)=sp at *;obtain ⟨q,p⟩:=sp;have HDR:=Hj hdr;have HSP:=Hj hsp;clear ck hdr hsp;simp only at hck hck' ck';by_cases hbad:Bad q p
      ·have e:chkFrom true none l=1:=by rw [HR.out,HDR.out];exact chkFrom_bad hbad
       have hnew:RchR true l (k+1) 1:=Or.inr ⟨by decide,e⟩;have HN:=Hj hnew;have HO:=Hj (fun W=>rown_bad q p W hbad);clear e hnew hbad
       go_wp2_with fail
       refine (HO.out _).mono ?_;rintro e w2 ⟨rfl,hb2⟩;have HB2:=Hj (fun j=>below_drewN (hB.trans (hb2.mono hB.size)) j);clear hb2 HO
       go_wp2_with fail
       go_quiet (fail)
       go_wp2;go_roundw
       case rel=>exact ⟨k+1,1,by omega,by go_num,rfl,HN.out,HB2.out _⟩
       case measure=>simp [intOf];omega
      ·have HO:=Hj (fun W=>rown_ok q p W hbad);have HBD:=Hj hbad;clear hbad;by_cases hk0:k=0
       ·subst hk0;have hd:decide ((0:Int)<((0:Nat):Int))=false:=by simp
        have hpv1:pv l (0+1)=some p:=by unfold pv;rw [if_neg (by omega),show 0+1-1=0 from rfl,HSP.out]
        have hnew:chkFrom true none l=chkFrom true (pv l (0+1)) (l.drop (0+1)):=by
         rw [HR.out,HDR.out,hpv1];exact chkFrom_first HBD.out
        clear hpv1;have HN:=Hj (show RchR true l (0+1) 0 from Or.inl ⟨rfl,hnew⟩);clear hnew;simp only [Nat.zero_mul,Nat.add_zero] at hck hck'
        go_wp2_with fail
        refine (HO.out _).mono ?_;rintro e w2 ⟨rfl,hb2⟩;have HB2:=Hj (fun j=>below_drewN (hB.trans (hb2.mono hB.size)) j);clear hb2 HO
        go_wp2_with fail
        go_quiet (fail)
        go_wp2;go_roundw
        case rel=>exact ⟨0+1,0,by omega,by go_num,rfl,HN.out,HB2.out _⟩
        case measure=>simp [intOf];omega
       ·obtain ⟨k,rfl⟩:∃ j,k=j+1:=⟨k-1,by omega⟩;obtain ⟨-,cp'⟩:=HC.out k (by omega);have hpv:pv l (k+1)=some (l[k]?.getD (0,0)).2:=by unfold pv;rw [if_neg (by omega)];rfl
        generalize hpe:(l[k]?.getD (0,0)).2=v at *;have hR2:chkFrom true none l=if flw true v p then chkFrom true (some p) (l.drop (k+1+1)) else 3:=by
         rw [HR.out,HDR.out,hpv];exact chkFrom_next HBD.out
        have HR2:=Hj hR2;have HPV:=Hj (show pv l (k+1+1)=some p by unfold pv;rw [if_neg (by omega),show k+1+1-1=k+1 from rfl,HSP.out]);have HCK:=Hj ck';have HCP:=Hj cp';have hkp:(0:Int)<(k:Int)+1:=by omega
        have hkw:IntKind.i64.wrap ((k:Int)+1-1)=(k:Int):=by rw [show (k:Int)+1-1=k by omega];exact IntWalk.i64_in _ (by omega)
        have hkn:(k:Int)<(n:Int):=by omega
        have hk00:(0:Int)≤(k:Int):=by omega
        clear cp' ck' hR2 hpv hpe hk0
        go_wp2_with fail
        refine (HO.out _).mono ?_;rintro e w2 ⟨rfl,hb2⟩;have hB3:=hB.trans (hb2.mono hB.size);have HB2:=Hj (fun j=>below_drewN hB3 j);have y1:=(hB3.cell (p:=⟨b,o+(k+1)*2+1,none⟩) hb).trans HCK.out;have y2:=(hB3.cell (p:=⟨b,o+k*2+1,none⟩) hb).trans HCP.out;clear hb2 HO hB3;by_cases hfl:p≤v
        ·have hfe:flw true v p=false:=by unfold flw;simp;omega
         have HN:=Hj (show RchR true l (k+1+1) 3 from Or.inr ⟨by decide,by rw [HR2.out,hfe];rfl⟩);have d9:decide (p≤v)=true:=by simpa using hfl
         clear hfe
         go_wp2_with fail
         go_quiet (fail)
         go_wp2;go_roundw
         case rel=>exact ⟨k+1+1,3,by omega,by go_num,rfl,HN.out,HB2.out _⟩
         case measure=>simp [intOf];omega
        ·have hfe:flw true v p=true:=by unfold flw;simp;omega
         have HN:=Hj (show RchR true l (k+1+1) 0 from Or.inl ⟨rfl,by rw [HR2.out,hfe,HPV.out];rfl⟩);have d9:decide (p≤v)=false:=by simpa using hfl
         clear hfe
         go_wp2_with fail
         go_quiet (fail)
         go_wp2;go_roundw
         case rel=>exact ⟨k+1+1,0,by omega,by go_num,rfl,HN.out,HB2.out _⟩
         case measure=>simp [intOf];omega
     ·obtain rfl:k=n:=by omega
      have e:chkFrom true none l=0:=by rw [HR.out,List.drop_of_length_le (by rw [HL.out];exact Nat.le_refl _)];exact chkFrom_nil _ _
      have E:=Hj e;clear e;go_wp2;go_ret;rw [E.out];exact ⟨rfl,hB⟩
    ·have e:chkFrom true none l=x:=by
      rcases hR.out with ⟨hh,_⟩|⟨_,hh⟩
      ·exact absurd hh hx
      ·exact hh
     have E:=Hj e;have dx:(x == 0)=false:=by simpa using hx
     clear e hR;by_cases hlt:k<n
     ·have hki2:(k:Int)<(n:Int):=by omega
      go_wp2;go_ret;rw [E.out];exact ⟨rfl,hB⟩
     ·have hki2:¬ (k:Int)<(n:Int):=by omega
      go_wp2;go_ret;rw [E.out];exact ⟨rfl,hB⟩
theorem rcheck_dn (A:Option Addr) (n c:Nat) (l:List (Int×Int)) (w:World) (h:StAt w A n l) :
  Calls Tryz.prog 67 #[.slice A n c] w fun e w'=>e=.returned (.int .i64 (chk false l))∧Below w.heap.size w w':=by
 obtain ⟨hl,hf,hc⟩:=h;have TM:=rmany_any A n c w;by_cases h0:n=0
 ·subst h0;have e:chk false l=4:=by unfold chk;rw [if_pos hl]
  rw [e];rw [if_pos rfl] at TM;have HT:=Hj TM;clear TM hl hc hf e;go_enter Tryz.func67,Tryz.ntmps67
  go_wp2_with fail
  refine HT.out.mono ?_;rintro e w1 ⟨rfl,rfl⟩
  go_wp2_with fail
  refine wp_loop_rounds 1 ?_;rw [rounds_succ];go_wp2;go_ret;exact ⟨rfl,Below.refl _ _⟩
 ·rw [if_neg h0] at TM;by_cases h3:3<n
  ·have e:chk false l=5:=by unfold chk;rw [if_neg (by omega),if_pos (by omega)]
   rw [e];rw [if_pos h3] at TM;have HT:=Hj TM;have hnp:(0:Int)<(n:Int):=by omega
   have hnp':0<n:=by omega
   clear TM hl hc hf e;go_enter Tryz.func67,Tryz.ntmps67
   go_wp2_with fail
   refine HT.out.mono ?_;rintro e w1 ⟨rfl,rfl⟩
   go_wp2_with fail
   refine wp_loop_rounds 1 ?_;rw [rounds_succ];go_wp2;go_ret;exact ⟨rfl,Below.refl _ _⟩
  ·have e : chk false l=chkFrom false none l:=by unfold chk;rw [if_neg (by omega),if_neg (by omega)]
   rw [e];rw [if_neg h3] at TM;have HT:=Hj TM;have HL:=Hj hl;obtain ⟨b,o,rfl,hb,hcell⟩:=hc h0;have HC:=Hj hcell;clear e hl hf hc hcell TM;go_enter Tryz.func67,Tryz.ntmps67
   go_wp2_with fail
   refine HT.out.mono ?_;rintro e w1 ⟨rfl,rfl⟩;clear HT
   go_wp2_with fail
   go_loopw [3,4] (fun t3 t wr=>∃ (k:Nat) (x:Int),k≤n∧t=.int .i64 k∧t3=.int .i64 x∧Hid (RchR false l k x)∧Hid (Below w.heap.size w wr)) (fun t3 t _=>2*(n-(intOf t).toNat)+(if (intOf t3)=0 then 1 else 0))
   case atStart=>exact ⟨0,0,Nat.zero_le _,rfl,rfl,Or.inl ⟨rfl,rfl⟩,Below.refl _ _⟩
   case round =>
    obtain ⟨k,x,hk,rfl,rfl,hR,hB'⟩:=hrel;have hB:=hB'.out;by_cases hx:x=0
    ·subst hx;have hR0:chkFrom false none l=chkFrom false (pv l k) (l.drop k):=by
      rcases hR.out with ⟨_,hh⟩|⟨hh,_⟩
      ·exact hh
      ·exact absurd rfl hh
     have HR:=Hj hR0;clear hR hR0;by_cases hlt:k<n
     ·obtain ⟨ck,ck'⟩:=HC.out k hlt;have hck:=(hB.cell (p:=⟨b,o+k*2,none⟩) hb).trans ck;have hck':=(hB.cell (p:=⟨b,o+k*2+1,none⟩) hb).trans ck';have hdr:=drop_cons (l:=l) (k:=k) (by rw [HL.out];exact hlt);have hbr:b<wr.heap.size:=Nat.lt_of_lt_of_le hb hB.size;have hki1:(0:Int)≤(k:Int):=by omega
      have hki2:(k:Int)<(n:Int):=by omega
      generalize hsp:l[k]?.getD (0,0)=sp at *;obtain ⟨q,p⟩:=sp;have HDR:=Hj hdr;have HSP:=Hj hsp;clear ck hdr hsp;simp only at hck hck' ck';by_cases hbad:Bad q p
      ·have e:chkFrom false none l=1:=by rw [HR.out,HDR.out];exact chkFrom_bad hbad
       have hnew:RchR false l (k+1) 1:=Or.inr ⟨by decide,e⟩;have HN:=Hj hnew;have HO:=Hj (fun W=>rown_bad q p W hbad);clear e hnew hbad
       go_wp2_with fail
       refine (HO.out _).mono ?_;rintro e w2 ⟨rfl,hb2⟩;have HB2:=Hj (fun j=>below_drewN (hB.trans (hb2.mono hB.size)) j);clear hb2 HO
       go_wp2_with fail
       go_quiet (fail)
       go_wp2;go_roundw
       case rel=>exact ⟨k+1,1,by omega,by go_num,rfl,HN.out,HB2.out _⟩
       case measure=>simp [intOf];omega
      ·have HO:=Hj (fun W=>rown_ok q p W hbad);have HBD:=Hj hbad;clear hbad;by_cases hk0:k=0
       ·subst hk0;have hd:decide ((0:Int)<((0:Nat):Int))=false:=by simp
        have hpv1:pv l (0+1)=some p:=by unfold pv;rw [if_neg (by omega),show 0+1-1=0 from rfl,HSP.out]
        have hnew:chkFrom false none l=chkFrom false (pv l (0+1)) (l.drop (0+1)):=by
         rw [HR.out,HDR.out,hpv1];exact chkFrom_first HBD.out
        clear hpv1;have HN:=Hj (show RchR false l (0+1) 0 from Or.inl ⟨rfl,hnew⟩);clear hnew;simp only [Nat.zero_mul,Nat.add_zero] at hck hck'
        go_wp2_with fail
        refine (HO.out _).mono ?_;rintro e w2 ⟨rfl,hb2⟩;have HB2:=Hj (fun j=>below_drewN (hB.trans (hb2.mono hB.size)) j);clear hb2 HO
        go_wp2_with fail
        go_quiet (fail)
        go_wp2;go_roundw
        case rel=>exact ⟨0+1,0,by omega,by go_num,rfl,HN.out,HB2.out _⟩
        case measure=>simp [intOf];omega
       ·obtain ⟨k,rfl⟩:∃ j,k=j+1:=⟨k-1,by omega⟩;obtain ⟨-,cp'⟩:=HC.out k (by omega);have hpv:pv l (k+1)=some (l[k]?.getD (0,0)).2:=by unfold pv;rw [if_neg (by omega)];rfl
        generalize hpe:(l[k]?.getD (0,0)).2=v at *;have hR2:chkFrom false none l=if flw false v p then chkFrom false (some p) (l.drop (k+1+1)) else 3:=by
         rw [HR.out,HDR.out,hpv];exact chkFrom_next HBD.out
        have HR2:=Hj hR2;have HPV:=Hj (show pv l (k+1+1)=some p by unfold pv;rw [if_neg (by omega),show k+1+1-1=k+1 from rfl,HSP.out]);have HCK:=Hj ck';have HCP:=Hj cp';have hkp:(0:Int)<(k:Int)+1:=by omega
        have hkw:IntKind.i64.wrap ((k:Int)+1-1)=(k:Int):=by rw [show (k:Int)+1-1=k by omega];exact IntWalk.i64_in _ (by omega)
        have hkn:(k:Int)<(n:Int):=by omega
        have hk00:(0:Int)≤(k:Int):=by omega
        clear cp' ck' hR2 hpv hpe hk0
        go_wp2_with fail
        refine (HO.out _).mono ?_;rintro e w2 ⟨rfl,hb2⟩;have hB3:=hB.trans (hb2.mono hB.size);have HB2:=Hj (fun j=>below_drewN hB3 j);have y1:=(hB3.cell (p:=⟨b,o+(k+1)*2+1,none⟩) hb).trans HCK.out;have y2:=(hB3.cell (p:=⟨b,o+k*2+1,none⟩) hb).trans HCP.out;clear hb2 HO hB3;by_cases hfl:v≤p
        ·have hfe:flw false v p=false:=by unfold flw;simp;omega
         have HN:=Hj (show RchR false l (k+1+1) 3 from Or.inr ⟨by decide,by rw [HR2.out,hfe];rfl⟩);have d9:decide (v≤p)=true:=by simpa using hfl
         clear hfe
         go_wp2_with fail
         go_quiet (fail)
         go_wp2;go_roundw
         case rel=>exact ⟨k+1+1,3,by omega,by go_num,rfl,HN.out,HB2.out _⟩
         case measure=>simp [intOf];omega
        ·have hfe:flw false v p=true:=by unfold flw;simp;omega
         have HN:=Hj (show RchR false l (k+1+1) 0 from Or.inl ⟨rfl,by rw [HR2.out,hfe,HPV.out];rfl⟩);have d9:decide (v≤p)=false:=by simpa using hfl
         clear hfe
         go_wp2_with fail
         go_quiet (fail)
         go_wp2;go_roundw
         case rel=>exact ⟨k+1+1,0,by omega,by go_num,rfl,HN.out,HB2.out _⟩
         case measure=>simp [intOf];omega
     ·obtain rfl:k=n:=by omega
      have e:chkFrom false none l=0:=by rw [HR.out,List.drop_of_length_le (by rw [HL.out];exact Nat.le_refl _)];exact chkFrom_nil _ _
      have E:=Hj e;clear e;go_wp2;go_ret;rw [E.out];exact ⟨rfl,hB⟩
    ·have e:chkFrom false none l=x:=by
      rcases hR.out with ⟨hh,_⟩|⟨_,hh⟩
      ·exact absurd hh hx
      ·exact hh
     have E:=Hj e;have dx:(x == 0)=false:=by simpa using hx
     clear e hR;by_cases hlt:k<n
     ·have hki2:(k:Int)<(n:Int):=by omega
      go_wp2;go_ret;rw [E.out];exact ⟨rfl,hB⟩
     ·have hki2:¬ (k:Int)<(n:Int):=by omega
      go_wp2;go_ret;rw [E.out];exact ⟨rfl,hB⟩
theorem rcurve_any (A:Option Addr) (n c:Nat) (l:List (Int×Int)) (w:World) (h:StAt w A n l) :
  Calls Tryz.prog 203 #[.slice A n c] w fun e w'=>e=.returned (.int .i64 (curveE l))∧Below w.heap.size w w':=by
 have T1:=rcheck_dn A n c l w h;have HT2:=Hj (fun W hW=>rcheck_up A n c l W (h.below hW));by_cases h0:chk false l=0
 ·have e:curveE l=0:=by unfold curveE;rw [if_pos h0]
  rw [e];rw [h0] at T1;have HT1:=Hj T1;clear T1 h h0 e;go_enter Tryz.func203,Tryz.ntmps203
  go_wp2_with fail
  refine HT1.out.mono ?_;rintro e w1 ⟨rfl,hb1⟩;go_wp2;go_ret;exact ⟨rfl,hb1⟩
 ·have e:curveE l=chk true l:=by unfold curveE;rw [if_neg h0]
  rw [e];clear e;generalize chk false l=x at *;have dx:(x == 0)=false:=by simpa using h0
  have HT1:=Hj T1;clear T1 h h0;go_enter Tryz.func203,Tryz.ntmps203
  go_wp2_with fail
  refine HT1.out.mono ?_;rintro e w1 ⟨rfl,hb1⟩;have HB1:=Hj hb1;clear hb1
  go_wp2_with fail
  refine (HT2.out w1 HB1.out).mono ?_;rintro e w2 ⟨rfl,hb2⟩;have HB2:=Hj (HB1.out.trans (hb2.mono HB1.out.size));clear hb2;go_wp2;go_ret;exact ⟨rfl,HB2.out⟩
theorem rsum_any (A:Option Addr) (n c:Nat) (l:List (Int×Int)) (w:World) (h:StAt w A n l) :
  Calls Tryz.prog 204 #[.slice A n c] w fun e w'=>e=.returned (.int .i64 (sumS l))∧Below w.heap.size w w':=by
 have HCV:=Hj (fun W (hW:Below w.heap.size w W)=>rcurve_any A n c l W (h.below hW));by_cases h0:curveE l=0
 ·obtain ⟨hn0,hn3,hok⟩:=curve_ok h0;have e:sumS l=qsum l:=by unfold sumS;rw [if_pos h0]
  rw [e];rw [h0] at HCV;have HST:=Hj h;have HOK:=Hj hok;have HLN:=Hj h.1;have hn3':n≤3:=by have:=h.1;omega
  clear h h0 e hok hn0 hn3;go_enter Tryz.func204,Tryz.ntmps204
  go_wp2_with fail
  go_loopw [3,4] (fun t3 t wr=>∃ k:Nat,k≤n∧t=.int .i64 k∧t3=.int .i64 (qsum (l.take k))∧Hid (Below w.heap.size w wr)) (fun _ t _=>n-(intOf t).toNat)
  case atStart=>exact ⟨0,Nat.zero_le _,rfl,rfl,Below.refl _ _⟩
  case round =>
   obtain ⟨k,hk,rfl,rfl,hB⟩:=hrel;by_cases hlt:k<n
   ·obtain ⟨b,o,rfl,hb,hcell⟩:=HST.out.2.2 (by omega);obtain ⟨ck,-⟩:=hcell k hlt;have HCK:=Hj ck;have hki1:(0:Int)≤(k:Int):=by omega
    have hki2:(k:Int)<(n:Int):=by omega
    have hts:=take_snocS (l:=l) (k:=k) (by rw [HLN.out];exact hlt);have hqs:qsum (l.take (k+1))=qsum (l.take k)+(l[k]?.getD (0,0)).1:=by rw [hts,qsum_snoc]
    have hmem:(l[k]?.getD (0,0))∈l:=by rw [List.getElem?_eq_getElem (by rw [HLN.out];exact hlt)];exact List.getElem_mem _
    have hbad:=HOK.out _ hmem;unfold Bad at hbad;have hbd:=qsum_bd (l.take k) (fun s hs=>HOK.out s (List.mem_of_mem_take hs));have hl2:(l.take k).length≤3:=by have:=List.length_take_le k l;omega
    generalize (l[k]?.getD (0,0)).1=q at *;have q1:1≤q:=by omega
    have q2:q≤1000000:=by omega
    have HQS:=Hj hqs;clear hqs hts hmem hbad ck hcell;generalize qsum (l.take k)=s at *;have s1:0≤s:=by omega
    have s2:s≤3000000:=by omega
    clear hbd hl2
    go_wp2_with fail
    refine (HCV.out _ hB.out).mono ?_;rintro e w2 ⟨rfl,hb2⟩;have hB3:=hB.out.trans (hb2.mono hB.out.size);have y1:=(hB3.cell (p:=⟨b,o+k*2,none⟩) hb).trans HCK.out;have HB2:=Hj hB3;clear hb2 hB3;go_wp2;go_roundw
    case rel=>exact ⟨k+1,by omega,by go_num,by rw [HQS.out],HB2.out⟩
    case measure=>simp [intOf];omega
   ·obtain rfl:k=n:=by omega
    have hta:l.take k=l:=List.take_of_length_le (by rw [HLN.out];exact Nat.le_refl _);rw [hta];clear hta;go_wp2;go_ret;exact ⟨rfl,hB.out⟩
 ·have e:sumS l=0:=by unfold sumS;rw [if_neg h0]
  rw [e];clear e h;generalize curveE l=x at *;have dx:(x == 0)=false:=by simpa using h0
  clear h0;by_cases hn:n=0
  ·subst hn;go_enter Tryz.func204,Tryz.ntmps204
   go_wp2_with fail
   refine wp_loop_rounds 1 ?_;rw [rounds_succ];go_wp2;go_ret;exact ⟨rfl,Below.refl _ _⟩
  ·have hnp:(0:Int)<(n:Int):=by omega
   have hnp':0<n:=by omega
   go_enter Tryz.func204,Tryz.ntmps204
   go_wp2_with fail
   refine wp_loop_rounds 1 ?_;rw [rounds_succ]
   go_wp2_with fail
   refine (HCV.out _ (Below.refl _ _)).mono ?_;rintro e w2 ⟨rfl,hb2⟩;go_wp2;go_ret;exact ⟨rfl,hb2⟩
theorem rwrong25_any (A B:Option Addr) (n c m d:Nat) (os bs:List (List (Int×Int))) (w:World) (h:CsAt w A n os) (h':CsAt w B m bs) :
  Calls Tryz.prog 98 #[.slice A n c,.slice B m d] w fun e w'=>e=.returned (.int .i64 (ckB os bs))∧Below w.heap.size w w':=by
 have HX:=Hj h;have HY:=Hj h';have HLN:=Hj h.1;have HMN:=Hj h'.1;by_cases h5:5<n
 ·have e:ckB os bs=5:=by unfold ckB;rw [if_pos (by rw [h.1];exact Or.inl h5)]
  have d5:decide ((5:Int)<(n:Int))=true:=by simp;omega
  rw [e];clear h h' e;go_enter Tryz.func98,Tryz.ntmps98;go_wp2;go_ret;exact ⟨rfl,Below.refl _ _⟩
 ·have d5:decide ((5:Int)<(n:Int))=false:=by simp;omega
  by_cases h6:6<m
  ·have e:ckB os bs=5:=by unfold ckB;rw [if_pos (by rw [h'.1];exact Or.inr h6)]
   have d6:decide ((6:Int)<(m:Int))=true:=by simp;omega
   rw [e];clear h h' e;go_enter Tryz.func98,Tryz.ntmps98;go_wp2;go_ret;exact ⟨rfl,Below.refl _ _⟩
  ·have d6:decide ((6:Int)<(m:Int))=false:=by simp;omega
   have HE0:Hid (ckB os bs=ckX os bs):=by
    show ckB os bs=ckX os bs;unfold ckB ckX;rw [if_neg (by rw [h.1,h'.1];omega)]
   clear h h';go_enter Tryz.func98,Tryz.ntmps98
   go_wp2_with fail
   go_loopw [5] (fun t wr=>∃ k:Nat,k≤n∧t=.int .i64 k∧Hid (Below w.heap.size w wr∧(ckF true 0 os).2=(ckF true k (os.drop k)).2)) (fun t _=>n-(intOf t).toNat)
   case atStart=>exact ⟨0,Nat.zero_le _,rfl,Below.refl _ _,by simp⟩
   case round =>
    obtain ⟨k,hk,rfl,hR⟩:=hrel;by_cases hlt:k<n
    ·obtain ⟨b,o,rfl,hb,hc⟩:=HX.out.2 (by omega);obtain ⟨A',n',c',hcell,hst⟩:=hc k hlt;have hcl:=(hR.out.1.cell (p:=⟨b,o+k,none⟩) hb).trans hcell;have hkl:k<os.length:=by rw [HLN.out];exact hlt
     have hmem:=getD_mem (d:=([]:List (Int×Int))) hkl;have hCK:=rcheck_up A' n' c' (os[k]?.getD []) wr (hst.below hR.out.1);have hsk:=ckF_skip (up:=true) hkl;have hht:=ckF_hit (up:=true) hkl;generalize chk true (os[k]?.getD [])=x at *;have k1:(0:Int)≤(k:Int):=by omega
     have k2:(k:Int)<(n:Int):=by omega
     have HCK:=Hj hCK;have HR:=Hj hR.out;have HSK:=Hj hsk;have HHT:=Hj hht;clear hc hcell hst hkl hmem hCK hR hsk hht
     go_wp2_with fail
     refine HCK.out.mono ?_;rintro e v1 ⟨rfl,hb1⟩;have HV1:=Hj (HR.out.1.trans (hb1.mono HR.out.1.size));clear hb1 HCK;by_cases hx:x=0
     ·have dx:(x != 0)=false:=by simpa using hx
      have HE:=Hj (HR.out.2.trans (HSK.out hx));clear HSK HHT HR hx;go_wp2;go_roundw
      case rel=>exact ⟨k+1,by omega,by go_num,HV1.out,HE.out⟩
      case measure=>simp [intOf];omega
     ·have dx:(x != 0)=true:=by simpa using hx
      have HE:=Hj (HR.out.2.trans (HHT.out hx));clear HSK HHT HR;go_wp2;go_ret;exact ⟨by rw [HE0.out];unfold ckX;rw [HE.out,if_pos hx];rfl,HV1.out⟩
    ·obtain rfl:k=n:=by omega
     have he:(ckF true 0 os).2=0:=by
      rw [hR.out.2,List.drop_eq_nil_of_le (by rw [HLN.out];exact Nat.le_refl _)]
      rfl
     have HZ:=Hj he;have HBA:=Hj hR.out.1;clear he hR
     go_wp2_with fail
     go_loopw [7] (fun t wr=>∃ k:Nat,k≤m∧t=.int .i64 k∧Hid (Below w.heap.size w wr∧(ckF false 0 bs).2=(ckF false k (bs.drop k)).2)) (fun t _=>m-(intOf t).toNat)
     case atStart=>exact ⟨0,Nat.zero_le _,rfl,HBA.out,by simp⟩
     case round =>
      obtain ⟨k,hk,rfl,hR⟩:=hrel;by_cases hlt:k<m
      ·obtain ⟨b,o,rfl,hb,hc⟩:=HY.out.2 (by omega);obtain ⟨A',n',c',hcell,hst⟩:=hc k hlt;have hcl:=(hR.out.1.cell (p:=⟨b,o+k,none⟩) hb).trans hcell;have hkl:k<bs.length:=by rw [HMN.out];exact hlt
       have hmem:=getD_mem (d:=([]:List (Int×Int))) hkl;have hCK:=rcheck_dn A' n' c' (bs[k]?.getD []) wr (hst.below hR.out.1);have hsk:=ckF_skip (up:=false) hkl;have hht:=ckF_hit (up:=false) hkl;generalize chk false (bs[k]?.getD [])=x at *;have k1:(0:Int)≤(k:Int):=by omega
       have k2:(k:Int)<(m:Int):=by omega
       have HCK:=Hj hCK;have HR:=Hj hR.out;have HSK:=Hj hsk;have HHT:=Hj hht;clear hc hcell hst hkl hmem hCK hR hsk hht
       go_wp2_with fail
       refine HCK.out.mono ?_;rintro e v1 ⟨rfl,hb1⟩;have HV1:=Hj (HR.out.1.trans (hb1.mono HR.out.1.size));clear hb1 HCK;by_cases hx:x=0
       ·have dx:(x != 0)=false:=by simpa using hx
        have HE:=Hj (HR.out.2.trans (HSK.out hx));clear HSK HHT HR hx;go_wp2;go_roundw
        case rel=>exact ⟨k+1,by omega,by go_num,HV1.out,HE.out⟩
        case measure=>simp [intOf];omega
       ·have dx:(x != 0)=true:=by simpa using hx
        have HE:=Hj (HR.out.2.trans (HHT.out hx));clear HSK HHT HR;go_wp2;go_ret;exact ⟨by rw [HE0.out];unfold ckX;rw [HZ.out,if_neg (by simp),HE.out];rfl,HV1.out⟩
      ·obtain rfl:k=m:=by omega
       have he:(ckF false 0 bs).2=0:=by
        rw [hR.out.2,List.drop_eq_nil_of_le (by rw [HMN.out];exact Nat.le_refl _)]
        rfl
       have HE:=Hj he;have HB9:=Hj hR.out.1;clear he hR;go_wp2;go_ret;exact ⟨by rw [HE0.out];unfold ckX;rw [HZ.out,if_neg (by simp),HE.out];rfl,HB9.out⟩
theorem rmulq_s {s:Nat} (hs:s≤1000000000) (an an' bn bn':Bool) (A A' B B':Option Addr) (n c n' c' m d m' d':Nat) (qa qb:Rat) (w:World) (ha:QS s w an A n c an' A' n' c' qa) (hb:QS s w bn B m d bn' B' m' d' qb) :
  Calls Tryz.prog 80 #[.agg #[.bool an,.slice A n c,.bool an',.slice A' n' c'],.agg #[.bool bn,.slice B m d,.bool bn',.slice B' m' d']] w (RetQ w (qa*qb)):=by
 obtain ⟨na,da,hQ,h1,h2,hq,h0⟩:=ha.qz (by omega);obtain ⟨nb,db,hR,g1,g2,hr,g0⟩:=hb.qz (by omega);have LEN4:=Hj (wb_half h1 (by omega));have LEN5:=Hj (wb_half g1 (by omega));have LEN7:=Hj (wb_half h2 (by omega));have LEN8:=Hj (wb_half g2 (by omega));have LEN6:=Hj (show (hd (qnum na da*qnum nb db).natAbs).length≤6000000000 by rw [Int.natAbs_mul];exact wb_mul_half h1 g1 hs);have LEN9:=Hj (show (hd ((qden da).natAbs*(qden db).natAbs)).length≤6000000000 from wb_mul_half h2 g2 hs);have hv0:(qden da).natAbs*(qden db).natAbs≠0:=Nat.mul_ne_zero h0 g0;have hy:qa*qb=mkRat (qnum na da*qnum nb db) ((qden da).natAbs*(qden db).natAbs):=by rw [hq,hr,rat_mul,Int.natAbs_mul]
 generalize qa*qb=y at *;clear ha hb h1 h2 g1 g2 hq hr h0 g0;go_enter Tryz.func80,Tryz.ntmps80
 go_wp2_with fail
 obtain ⟨hB0,hB1,hB2,hBW,hsz⟩:=pre3 w 42 #[.bool an,.slice A n c,.bool an',.slice A' n' c'] 42 #[.bool bn,.slice B m d,.bool bn',.slice B' m' d'] 42 #[.bool false,.slice none 0 0,.bool false,.slice none 0 0];generalize ((w.alloc (.cells #[.bool an,.slice A n c,.bool an',.slice A' n' c'] 42)).alloc (.cells #[.bool bn,.slice B m d,.bool bn',.slice B' m' d'] 42)).alloc (.cells #[.bool false,.slice none 0 0,.bool false,.slice none 0 0] 42)=W at *;have HSZ:=Hj hsz;clear hsz;have TN:=Hj (fun W' (hW:Below (w.heap.size+1+1) W W')=>rnum_z an an' A A' n c n' c' na da W' (hQ.below (hBW.trans (hW.mono (by omega)))));have TD:=Hj (fun W' (hW:Below (w.heap.size+1+1) W W')=>rden_z an an' A A' n c n' c' na da W' (hQ.below (hBW.trans (hW.mono (by omega)))));have TN2:=Hj (fun W' (hW:Below (w.heap.size+1+1) W W')=>rnum_z bn bn' B B' m d m' d' nb db W' (hR.below (hBW.trans (hW.mono (by omega)))));have TD2:=Hj (fun W' (hW:Below (w.heap.size+1+1) W W')=>rden_z bn bn' B B' m d m' d' nb db W' (hR.below (hBW.trans (hW.mono (by omega)))));have TM:=Hj (fun W' (s t:Bool) (C D:Option Addr) (j e j' e':Nat) (hC:ZK W' s C j (qnum na da)) (hD:ZK W' t D j' (qnum nb db))=>rmul_z s t C D j e j' e' (qnum na da) (qnum nb db) W' hC hD);have TM2:=Hj (fun W' (C D:Option Addr) (j e j' e':Nat) (hC:ZK W' false C j ((qden da).natAbs:Int)) (hD:ZK W' false D j' ((qden db).natAbs:Int))=>(rmul_z false false C D j e j' e' ((qden da).natAbs:Int) ((qden db).natAbs:Int) W' hC hD).mono fun _ _ h=>RetZ.toN (v:=(qden da).natAbs*(qden db).natAbs) (by rw [Int.natCast_mul];exact h));have TO:=Hj (fun W' (s:Bool) (C D:Option Addr) (j e j' e':Nat) (hC:ZK W' s C j (qnum na da*qnum nb db)) (hD:ZK W' false D j' ((((qden da).natAbs*(qden db).natAbs:Nat)):Int))=>rover_z s C D j e j' e' (qnum na da*qnum nb db) ((qden da).natAbs*(qden db).natAbs) W' hC hD hv0);rw [← hy] at TO;generalize qnum na da*qnum nb db=z6 at *;generalize (qden da).natAbs*(qden db).natAbs=v9 at *;generalize qnum na da=z4 at *;generalize qnum nb db=z5 at *;generalize (qden da).natAbs=v7 at *;generalize (qden db).natAbs=v8 at *;have s5:=RS4.start hB2;clear hQ hR hy hv0;have hS:∀ w',RS4 (w.heap.size+1+1) 42 W w'→(w'.cell? ⟨w.heap.size,0,none⟩=some (.bool an)∧w'.cell? ⟨w.heap.size,1,none⟩=some (.slice A n c)∧w'.cell? ⟨w.heap.size,2,none⟩=some (.bool an')∧w'.cell? ⟨w.heap.size,3,none⟩=some (.slice A' n' c')∧w'.cell? ⟨w.heap.size+1,0,none⟩=some (.bool bn)∧w'.cell? ⟨w.heap.size+1,1,none⟩=some (.slice B m d)∧w'.cell? ⟨w.heap.size+1,2,none⟩=some (.bool bn')∧w'.cell? ⟨w.heap.size+1,3,none⟩=some (.slice B' m' d'))∧RS4 (w.heap.size+1+1) 42 W w':=fun w' hk=>⟨⟨(hk.blk hB0 (by omega)).cell 0,(hk.blk hB0 (by omega)).cell 1,(hk.blk hB0 (by omega)).cell 2,(hk.blk hB0 (by omega)).cell 3,(hk.blk hB1 (by omega)).cell 0,(hk.blk hB1 (by omega)).cell 1,(hk.blk hB1 (by omega)).cell 2,(hk.blk hB1 (by omega)).cell 3⟩,hk⟩;have HS:=Hj hS;clear hS
 go_region_held3 (fun w'=>(w'.cell? ⟨w.heap.size,0,none⟩=some (.bool an)∧w'.cell? ⟨w.heap.size,1,none⟩=some (.slice A n c)∧w'.cell? ⟨w.heap.size,2,none⟩=some (.bool an')∧w'.cell? ⟨w.heap.size,3,none⟩=some (.slice A' n' c')∧w'.cell? ⟨w.heap.size+1,0,none⟩=some (.bool bn)∧w'.cell? ⟨w.heap.size+1,1,none⟩=some (.slice B m d)∧w'.cell? ⟨w.heap.size+1,2,none⟩=some (.bool bn')∧w'.cell? ⟨w.heap.size+1,3,none⟩=some (.slice B' m' d'))∧RS4 (w.heap.size+1+1) 42 W w')
  (with_reducible first|(refine HS.out _ ?_;assumption)|(refine HS.out _ (RS4.drew ?_);assumption)|(refine' HS.out _ (RS4.drew (And.right ?_));rotate_left;assumption)|(refine' HS.out _ (RS4.set (And.right ?_) _ _ _ _);rotate_left;assumption))
  (first
   | (go_at_call_of 129 (Value.agg #[Value.bool an,Value.slice A n c,Value.bool an',Value.slice A' n' c']);have hk:=And.right ‹_∧RS4 (w.heap.size+1+1) 42 W _›;refine (TN.out _ hk.1).mono ?_;rintro e v4 ⟨A4,k4,c4,rfl,hk4,hW4,hF4,hb4⟩;have hZ4:=zk_of hW4 (LEN4.out);have hr:=hk.call hb4;(try have hZ5:=hZ5.below hb4);(try have hZ6:=hZ6.below hb4);(try have hZ7:=hZ7.below hb4);(try have hZ8:=hZ8.below hb4);(try have hZ9:=hZ9.below hb4);clear hk hb4 hW4 hF4 hk4)
   | (go_at_call_of 129 (Value.agg #[Value.bool bn,Value.slice B m d,Value.bool bn',Value.slice B' m' d']);have hk:=And.right ‹_∧RS4 (w.heap.size+1+1) 42 W _›;refine (TN2.out _ hk.1).mono ?_;rintro e v5 ⟨A5,k5,c5,rfl,hk5,hW5,hF5,hb5⟩;have hZ5:=zk_of hW5 (LEN5.out);have hr:=hk.call hb5;(try have hZ4:=hZ4.below hb5);(try have hZ6:=hZ6.below hb5);(try have hZ7:=hZ7.below hb5);(try have hZ8:=hZ8.below hb5);(try have hZ9:=hZ9.below hb5);clear hk hb5 hW5 hF5 hk5)
   | (go_at_call_of 130 (Value.agg #[Value.bool an,Value.slice A n c,Value.bool an',Value.slice A' n' c']);have hk:=And.right ‹_∧RS4 (w.heap.size+1+1) 42 W _›;refine (TD.out _ hk.1).mono ?_;rintro e v7 ⟨A7,k7,c7,rfl,hk7,hW7,hF7,hb7⟩;have hZ7:=zk_ofN hW7 (LEN7.out);have hr:=hk.call hb7;(try have hZ4:=hZ4.below hb7);(try have hZ5:=hZ5.below hb7);(try have hZ6:=hZ6.below hb7);(try have hZ8:=hZ8.below hb7);(try have hZ9:=hZ9.below hb7);clear hk hb7 hW7 hF7 hk7)
   | (go_at_call_of 130 (Value.agg #[Value.bool bn,Value.slice B m d,Value.bool bn',Value.slice B' m' d']);have hk:=And.right ‹_∧RS4 (w.heap.size+1+1) 42 W _›;refine (TD2.out _ hk.1).mono ?_;rintro e v8 ⟨A8,k8,c8,rfl,hk8,hW8,hF8,hb8⟩;have hZ8:=zk_ofN hW8 (LEN8.out);have hr:=hk.call hb8;(try have hZ4:=hZ4.below hb8);(try have hZ5:=hZ5.below hb8);(try have hZ6:=hZ6.below hb8);(try have hZ7:=hZ7.below hb8);(try have hZ9:=hZ9.below hb8);clear hk hb8 hW8 hF8 hk8)
   | (go_at_call_of 131 (Value.agg #[Value.bool (decide (z4<0)),Value.slice A4 k4 c4]);have hk:=And.right ‹_∧RS4 (w.heap.size+1+1) 42 W _›;refine (TM.out _ _ _ _ _ _ _ _ _ hZ4 hZ5).mono ?_;rintro e v6 ⟨A6,k6,c6,rfl,hk6,hW6,hF6,hb6⟩;have hZ6:=zk_of hW6 (LEN6.out);have hr:=hk.call hb6;(try have hZ7:=hZ7.below hb6);(try have hZ8:=hZ8.below hb6);(try have hZ9:=hZ9.below hb6);clear hk hb6 hW6 hF6 hk6)
   | (go_at_call_of 131 (Value.agg #[Value.bool false,Value.slice A7 k7 c7]);have hk:=And.right ‹_∧RS4 (w.heap.size+1+1) 42 W _›;refine (TM2.out _ _ _ _ _ _ _ hZ7 hZ8).mono ?_;rintro e v9 ⟨A9,k9,c9,rfl,hk9,hW9,hF9,hb9⟩;have hZ9:=zk_ofN hW9 (LEN9.out);have hr:=hk.call hb9;(try have hZ4:=hZ4.below hb9);(try have hZ5:=hZ5.below hb9);(try have hZ6:=hZ6.below hb9);clear hk hb9 hW9 hF9 hk9)
   | (go_at_call 128;have hk:=And.right ‹_∧RS4 (w.heap.size+1+1) 42 W _›;refine (TO.out _ _ _ _ _ _ _ _ hZ6 hZ9).mono ?_;rintro e v11 ⟨A11,k11,c11,A12,k12,c12,rfl,hk11,hk12,hW11,hW12,hF11,hF12,hb11⟩;have hl9:=RS4.lt hk;have hr9:=hk.call hb11;obtain ⟨_,_,_,_,f0,f1,f2,f3,f4,f5,f6,f7⟩:=hr9.four))
 all_goals
  have hfin:=retQ_close hBW (by omega) (by have:=HSZ.out;have h9:=hl9;omega) hr9 hk11 hk12 hW11 hW12 hF11 hF12;obtain ⟨d0,d1,d2,d3,-,-,-,-⟩:=(hr9.done (.bool (decide ((y).num<0))) (.slice A11 k11 c11) (.bool false) (.slice A12 k12 c12)).four;have HF:=Hj hfin;clear hfin hl9 hr9 TN TD TN2 TD2 TM TM2 TO hZ6 hZ9;go_wp2;refine bodyPost_ret (v:=.agg #[.bool (decide ((y).num<0)),.slice A11 k11 c11,.bool false,.slice A12 k12 c12]) ?_ rfl HF.out;simp [results,Tryz.results80,go_sem,d0,d1,d2,d3]
end Go.Proofs.YtjajigkacccdgaaGreat
