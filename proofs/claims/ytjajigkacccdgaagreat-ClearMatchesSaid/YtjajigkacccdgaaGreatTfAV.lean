/-
Lemmas of the walk; no further conditions.
-/
import Derived.Test.YtjajigkacccdgaaGreatTfAM
set_option linter.unusedVariables false
set_option linter.unusedSimpArgs false
set_option maxRecDepth 100000
set_option maxHeartbeats 16000000
namespace Go.Proofs.YtjajigkacccdgaaGreat
open Go.RowKit
open Wd
theorem rmany_any (A:Option Addr) (n c:Nat) (w:World):Calls Tryz.prog 117 #[.slice A n c] w fun e w'=>e=.returned (.int .i64 (if n=0 then 4 else if 3<n then 5 else 0))∧w=w':=by
 by_cases h0:n=0
 ·subst h0;rw [if_pos rfl];go_enter Tryz.func117,Tryz.ntmps117;go_wp2;go_ret;exact ⟨rfl,rfl⟩
 ·rw [if_neg h0];have d0:((n:Int) == 0)=false:=by simp;omega
  by_cases h3:3<n
  ·rw [if_pos h3];have d1:decide ((3:Int)<(n:Int))=true:=by simp;omega
   go_enter Tryz.func117,Tryz.ntmps117;go_wp2;go_ret;exact ⟨rfl,rfl⟩
  ·rw [if_neg h3];have d1:decide ((3:Int)<(n:Int))=false:=by simp;omega
   go_enter Tryz.func117,Tryz.ntmps117;go_wp2;go_ret;exact ⟨rfl,rfl⟩
theorem rown_bad (q p:Int) (w:World) (h:Bad q p):Calls Tryz.prog 118 #[.agg #[.int .i64 q,.int .i64 p]] w fun e w'=>e=.returned (.int .i64 1)∧Below w.heap.size w w':=by
 have hb4:q<1∨(¬ q<1∧1000000<q)∨(¬ q<1∧¬ 1000000<q∧p < -1000000)∨(¬ q<1∧¬ 1000000<q∧¬ p < -1000000∧1000000<p):=by unfold Bad at h;omega
 clear h;rcases hb4 with g1|⟨g1,g2⟩|⟨g1,g2,g3⟩|⟨g1,g2,g3,g4⟩
 all_goals
  go_enter Tryz.func118,Tryz.ntmps118;go_wp2;go_ret;exact ⟨rfl,(Below.refl _ _).alloc (Nat.le_refl _) _⟩
theorem rown_ok (q p:Int) (w:World) (h:¬ Bad q p):Calls Tryz.prog 118 #[.agg #[.int .i64 q,.int .i64 p]] w fun e w'=>e=.returned (.int .i64 0)∧Below w.heap.size w w':=by
 have g1:¬ q<1:=by unfold Bad at h;omega
 have g2:¬ 1000000<q:=by unfold Bad at h;omega
 have g3:¬ p < -1000000:=by unfold Bad at h;omega
 have g4:¬ 1000000<p:=by unfold Bad at h;omega
 clear h;go_enter Tryz.func118,Tryz.ntmps118;go_wp2;go_ret;exact ⟨rfl,(Below.refl _ _).alloc (Nat.le_refl _) _⟩
def RchR (up:Bool) (l:List (Int×Int)) (k:Nat) (x:Int):Prop:=(x=0∧chkFrom up none l=chkFrom up (pv l k) (l.drop k))∨(x≠0∧chkFrom up none l=x)
theorem rcheck_up (A:Option Addr) (n c:Nat) (l:List (Int×Int)) (w:World) (h:StAt w A n l) :
  Calls Tryz.prog 65 #[.slice A n c] w fun e w'=>e=.returned (.int .i64 (chk true l))∧Below w.heap.size w w':=by
 obtain ⟨hl,hf,hc⟩:=h;have TM:=rmany_any A n c w;by_cases h0:n=0
 ·subst h0;have e:chk true l=4:=by unfold chk;rw [if_pos hl]
  rw [e];rw [if_pos rfl] at TM;have HT:=Hj TM;clear TM hl hc hf e;go_enter Tryz.func65,Tryz.ntmps65
  go_wp2_with fail
  refine HT.out.mono ?_;rintro e w1 ⟨rfl,rfl⟩
  go_wp2_with fail
  refine wp_loop_rounds 1 ?_;rw [rounds_succ];go_wp2;go_ret;exact ⟨rfl,Below.refl _ _⟩
 ·rw [if_neg h0] at TM;by_cases h3:3<n
  ·have e:chk true l=5:=by unfold chk;rw [if_neg (by omega),if_pos (by omega)]
   rw [e];rw [if_pos h3] at TM;have HT:=Hj TM;have hnp:(0:Int)<(n:Int):=by omega
   have hnp':0<n:=by omega
   clear TM hl hc hf e;go_enter Tryz.func65,Tryz.ntmps65
   go_wp2_with fail
   refine HT.out.mono ?_;rintro e w1 ⟨rfl,rfl⟩
   go_wp2_with fail
   refine wp_loop_rounds 1 ?_;rw [rounds_succ];go_wp2;go_ret;exact ⟨rfl,Below.refl _ _⟩
  ·have e : chk true l=chkFrom true none l:=by unfold chk;rw [if_neg (by omega),if_neg (by omega)]
   rw [e];rw [if_neg h3] at TM;have HT:=Hj TM;have HL:=Hj hl;obtain ⟨b,o,rfl,hb,hcell⟩:=hc h0;have HC:=Hj hcell;clear e hl hf hc hcell TM;go_enter Tryz.func65,Tryz.ntmps65
   go_wp2_with fail
   refine HT.out.mono ?_;rintro e w1 ⟨rfl,rfl⟩;clear HT
   go_wp2_with fail
   go_loopw [3,4] (fun t3 t wr=>∃ (k:Nat) (x:Int),k≤n∧t=.int .i64 k∧t3=.int .i64 x∧Hid (RchR true l k x)∧Hid (Below w.heap.size w wr)) (fun t3 t _=>2*(n-(intOf t).toNat)+(if (intOf t3)=0 then 1 else 0))
   case atStart=>exact ⟨0,0,Nat.zero_le _,rfl,rfl,Or.inl ⟨rfl,rfl⟩,Below.refl _ _⟩
   case round =>
    obtain ⟨k,x,hk,rfl,rfl,hR,hB'⟩:=hrel;have hB:=hB'.out;by_cases hx:x=0
    ·subst hx;have hR0:chkFrom true none l=chkFrom true (pv l k) (l.drop k):=by
      rcases hR.out with ⟨_,hh⟩|⟨hh,_⟩
      ·exact hh
      ·exact absurd rfl hh
     have HR:=Hj hR0;clear hR hR0;by_cases hlt:k<n
     ·obtain ⟨ck,ck'⟩:=HC.out k hlt;have hck:=(hB.cell (p:=⟨b,o+k*2,none⟩) hb).trans ck;have hck':=(hB.cell (p:=⟨b,o+k*2+1,none⟩) hb).trans ck';have hdr:=drop_cons (l:=l) (k:=k) (by rw [HL.out];exact hlt);have hbr:b<wr.heap.size:=Nat.lt_of_lt_of_le hb hB.size;have hki1:(0:Int)≤(k:Int):=by omega
      have hki2:(k:Int)<(n:Int):=by omega
      generalize hsp:l[k]?.getD (0,0)=sp at *;obtain ⟨q,p⟩:=sp;have HDR:=Hj hdr;have HSP:=Hj hsp;clear ck hdr hsp;simp only at hck hck' ck';by_cases hbad:Bad q p
      ·have e:chkFrom true none l=1:=by rw [HR.out,HDR.out];exact chkFrom_bad hbad
       have hnew:RchR true l (k+1) 1:=Or.inr ⟨by decide,e⟩;have HN:=Hj hnew;have HO:=Hj (fun W=>rown_bad q p W hbad);clear e hnew hbad
       go_wp2_with fail
       refine (HO.out _).mono ?_;rintro e w2 ⟨rfl,hb2⟩;have HB2:=Hj (fun j=>below_drewN (hB.trans (hb2.mono hB.size)) j);clear hb2 HO
       go_wp2_with fail
       go_quiet (fail)
       go_wp2;go_roundw
       case rel=>exact ⟨k+1,1,by omega,by go_num,rfl,HN.out,HB2.out _⟩
       case measure=>simp [intOf];omega
      ·have HO:=Hj (fun W=>rown_ok q p W hbad);have HBD:=Hj hbad;clear hbad;by_cases hk0:k=0
       ·subst hk0;have hd:decide ((0:Int)<((0:Nat):Int))=false:=by simp
        have hpv1:pv l (0+1)=some p:=by unfold pv;rw [if_neg (by omega),show 0+1-1=0 from rfl,HSP.out]
        have hnew:chkFrom true none l=chkFrom true (pv l (0+1)) (l.drop (0+1)):=by
         rw [HR.out,HDR.out,hpv1];exact chkFrom_first HBD.out
        clear hpv1;have HN:=Hj (show RchR true l (0+1) 0 from Or.inl ⟨rfl,hnew⟩);clear hnew;simp only [Nat.zero_mul,Nat.add_zero] at hck hck'
        go_wp2_with fail
        refine (HO.out _).mono ?_;rintro e w2 ⟨rfl,hb2⟩;have HB2:=Hj (fun j=>below_drewN (hB.trans (hb2.mono hB.size)) j);clear hb2 HO
        go_wp2_with fail
        go_quiet (fail)
        go_wp2;go_roundw
        case rel=>exact ⟨0+1,0,by omega,by go_num,rfl,HN.out,HB2.out _⟩
        case measure=>simp [intOf];omega
       ·obtain ⟨k,rfl⟩:∃ j,k=j+1:=⟨k-1,by omega⟩;obtain ⟨-,cp'⟩:=HC.out k (by omega);have hpv:pv l (k+1)=some (l[k]?.getD (0,0)).2:=by unfold pv;rw [if_neg (by omega)];rfl
        generalize hpe:(l[k]?.getD (0,0)).2=v at *;have hR2:chkFrom true none l=if flw true v p then chkFrom true (some p) (l.drop (k+1+1)) else 3:=by
         rw [HR.out,HDR.out,hpv];exact chkFrom_next HBD.out
        have HR2:=Hj hR2;have HPV:=Hj (show pv l (k+1+1)=some p by unfold pv;rw [if_neg (by omega),show k+1+1-1=k+1 from rfl,HSP.out]);have HCK:=Hj ck';have HCP:=Hj cp';have hkp:(0:Int)<(k:Int)+1:=by omega
        have hkw:IntKind.i64.wrap ((k:Int)+1-1)=(k:Int):=by rw [show (k:Int)+1-1=k by omega];exact IntWalk.i64_in _ (by omega)
        have hkn:(k:Int)<(n:Int):=by omega
        have hk00:(0:Int)≤(k:Int):=by omega
        clear cp' ck' hR2 hpv hpe hk0
        go_wp2_with fail
        refine (HO.out _).mono ?_;rintro e w2 ⟨rfl,hb2⟩;have hB3:=hB.trans (hb2.mono hB.size);have HB2:=Hj (fun j=>below_drewN hB3 j);have y1:=(hB3.cell (p:=⟨b,o+(k+1)*2+1,none⟩) hb).trans HCK.out;have y2:=(hB3.cell (p:=⟨b,o+k*2+1,none⟩) hb).trans HCP.out;clear hb2 HO hB3;by_cases hfl:p≤v
        ·have hfe:flw true v p=false:=by unfold flw;simp;omega
         have HN:=Hj (show RchR true l (k+1+1) 3 from Or.inr ⟨by decide,by rw [HR2.out,hfe];rfl⟩);have d9:decide (p≤v)=true:=by simpa using hfl
         clear hfe
         go_wp2_with fail
         go_quiet (fail)
         go_wp2;go_roundw
         case rel=>exact ⟨k+1+1,3,by omega,by go_num,rfl,HN.out,HB2.out _⟩
         case measure=>simp [intOf];omega
        ·have hfe:flw true v p=true:=by unfold flw;simp;omega
         have HN:=Hj (show RchR true l (k+1+1) 0 from Or.inl ⟨rfl,by rw [HR2.out,hfe,HPV.out];rfl⟩);have d9:decide (p≤v)=false:=by simpa using hfl
         clear hfe
         go_wp2_with fail
         go_quiet (fail)
         go_wp2;go_roundw
         case rel=>exact ⟨k+1+1,0,by omega,by go_num,rfl,HN.out,HB2.out _⟩
         case measure=>simp [intOf];omega
     ·obtain rfl:k=n:=by omega
      have e:chkFrom true none l=0:=by rw [HR.out,List.drop_of_length_le (by rw [HL.out];exact Nat.le_refl _)];exact chkFrom_nil _ _
      have E:=Hj e;clear e;go_wp2;go_ret;rw [E.out];exact ⟨rfl,hB⟩
    ·have e:chkFrom true none l=x:=by
      rcases hR.out with ⟨hh,_⟩|⟨_,hh⟩
      ·exact absurd hh hx
      ·exact hh
     have E:=Hj e;have dx:(x == 0)=false:=by simpa using hx
     clear e hR;by_cases hlt:k<n
     ·have hki2:(k:Int)<(n:Int):=by omega
      go_wp2;go_ret;rw [E.out];exact ⟨rfl,hB⟩
     ·have hki2:¬ (k:Int)<(n:Int):=by omega
      go_wp2;go_ret;rw [E.out];exact ⟨rfl,hB⟩
theorem rcheck_dn (A:Option Addr) (n c:Nat) (l:List (Int×Int)) (w:World) (h:StAt w A n l) :
  Calls Tryz.prog 67 #[.slice A n c] w fun e w'=>e=.returned (.int .i64 (chk false l))∧Below w.heap.size w w':=by
 obtain ⟨hl,hf,hc⟩:=h;have TM:=rmany_any A n c w;by_cases h0:n=0
 ·subst h0;have e:chk false l=4:=by unfold chk;rw [if_pos hl]
  rw [e];rw [if_pos rfl] at TM;have HT:=Hj TM;clear TM hl hc hf e;go_enter Tryz.func67,Tryz.ntmps67
  go_wp2_with fail
  refine HT.out.mono ?_;rintro e w1 ⟨rfl,rfl⟩
  go_wp2_with fail
  refine wp_loop_rounds 1 ?_;rw [rounds_succ];go_wp2;go_ret;exact ⟨rfl,Below.refl _ _⟩
 ·rw [if_neg h0] at TM;by_cases h3:3<n
  ·have e:chk false l=5:=by unfold chk;rw [if_neg (by omega),if_pos (by omega)]
   rw [e];rw [if_pos h3] at TM;have HT:=Hj TM;have hnp:(0:Int)<(n:Int):=by omega
   have hnp':0<n:=by omega
   clear TM hl hc hf e;go_enter Tryz.func67,Tryz.ntmps67
   go_wp2_with fail
   refine HT.out.mono ?_;rintro e w1 ⟨rfl,rfl⟩
   go_wp2_with fail
   refine wp_loop_rounds 1 ?_;rw [rounds_succ];go_wp2;go_ret;exact ⟨rfl,Below.refl _ _⟩
  ·have e : chk false l=chkFrom false none l:=by unfold chk;rw [if_neg (by omega),if_neg (by omega)]
   rw [e];rw [if_neg h3] at TM;have HT:=Hj TM;have HL:=Hj hl;obtain ⟨b,o,rfl,hb,hcell⟩:=hc h0;have HC:=Hj hcell;clear e hl hf hc hcell TM;go_enter Tryz.func67,Tryz.ntmps67
   go_wp2_with fail
   refine HT.out.mono ?_;rintro e w1 ⟨rfl,rfl⟩;clear HT
   go_wp2_with fail
   go_loopw [3,4] (fun t3 t wr=>∃ (k:Nat) (x:Int),k≤n∧t=.int .i64 k∧t3=.int .i64 x∧Hid (RchR false l k x)∧Hid (Below w.heap.size w wr)) (fun t3 t _=>2*(n-(intOf t).toNat)+(if (intOf t3)=0 then 1 else 0))
   case atStart=>exact ⟨0,0,Nat.zero_le _,rfl,rfl,Or.inl ⟨rfl,rfl⟩,Below.refl _ _⟩
   case round =>
    obtain ⟨k,x,hk,rfl,rfl,hR,hB'⟩:=hrel;have hB:=hB'.out;by_cases hx:x=0
    ·subst hx;have hR0:chkFrom false none l=chkFrom false (pv l k) (l.drop k):=by
      rcases hR.out with ⟨_,hh⟩|⟨hh,_⟩
      ·exact hh
      ·exact absurd rfl hh
     have HR:=Hj hR0;clear hR hR0;by_cases hlt:k<n
     ·obtain ⟨ck,ck'⟩:=HC.out k hlt;have hck:=(hB.cell (p:=⟨b,o+k*2,none⟩) hb).trans ck;have hck':=(hB.cell (p:=⟨b,o+k*2+1,none⟩) hb).trans ck';have hdr:=drop_cons (l:=l) (k:=k) (by rw [HL.out];exact hlt);have hbr:b<wr.heap.size:=Nat.lt_of_lt_of_le hb hB.size;have hki1:(0:Int)≤(k:Int):=by omega
      have hki2:(k:Int)<(n:Int):=by omega
      generalize hsp:l[k]?.getD (0,0)=sp at *;obtain ⟨q,p⟩:=sp;have HDR:=Hj hdr;have HSP:=Hj hsp;clear ck hdr hsp;simp only at hck hck' ck';by_cases hbad:Bad q p
      ·have e:chkFrom false none l=1:=by rw [HR.out,HDR.out];exact chkFrom_bad hbad
       have hnew:RchR false l (k+1) 1:=Or.inr ⟨by decide,e⟩;have HN:=Hj hnew;have HO:=Hj (fun W=>rown_bad q p W hbad);clear e hnew hbad
       go_wp2_with fail
       refine (HO.out _).mono ?_;rintro e w2 ⟨rfl,hb2⟩;have HB2:=Hj (fun j=>below_drewN (hB.trans (hb2.mono hB.size)) j);clear hb2 HO
       go_wp2_with fail
       go_quiet (fail)
       go_wp2;go_roundw
       case rel=>exact ⟨k+1,1,by omega,by go_num,rfl,HN.out,HB2.out _⟩
       case measure=>simp [intOf];omega
      ·have HO:=Hj (fun W=>rown_ok q p W hbad);have HBD:=Hj hbad;clear hbad;by_cases hk0:k=0
       ·subst hk0;have hd:decide ((0:Int)<((0:Nat):Int))=false:=by simp
        have hpv1:pv l (0+1)=some p:=by unfold pv;rw [if_neg (by omega),show 0+1-1=0 from rfl,HSP.out]
        have hnew:chkFrom false none l=chkFrom false (pv l (0+1)) (l.drop (0+1)):=by
         rw [HR.out,HDR.out,hpv1];exact chkFrom_first HBD.out
        clear hpv1;have HN:=Hj (show RchR false l (0+1) 0 from Or.inl ⟨rfl,hnew⟩);clear hnew;simp only [Nat.zero_mul,Nat.add_zero] at hck hck'
        go_wp2_with fail
        refine (HO.out _).mono ?_;rintro e w2 ⟨rfl,hb2⟩;have HB2:=Hj (fun j=>below_drewN (hB.trans (hb2.mono hB.size)) j);clear hb2 HO
        go_wp2_with fail
        go_quiet (fail)
        go_wp2;go_roundw
        case rel=>exact ⟨0+1,0,by omega,by go_num,rfl,HN.out,HB2.out _⟩
        case measure=>simp [intOf];omega
       ·obtain ⟨k,rfl⟩:∃ j,k=j+1:=⟨k-1,by omega⟩;obtain ⟨-,cp'⟩:=HC.out k (by omega);have hpv:pv l (k+1)=some (l[k]?.getD (0,0)).2:=by unfold pv;rw [if_neg (by omega)];rfl
        generalize hpe:(l[k]?.getD (0,0)).2=v at *;have hR2:chkFrom false none l=if flw false v p then chkFrom false (some p) (l.drop (k+1+1)) else 3:=by
         rw [HR.out,HDR.out,hpv];exact chkFrom_next HBD.out
        have HR2:=Hj hR2;have HPV:=Hj (show pv l (k+1+1)=some p by unfold pv;rw [if_neg (by omega),show k+1+1-1=k+1 from rfl,HSP.out]);have HCK:=Hj ck';have HCP:=Hj cp';have hkp:(0:Int)<(k:Int)+1:=by omega
        have hkw:IntKind.i64.wrap ((k:Int)+1-1)=(k:Int):=by rw [show (k:Int)+1-1=k by omega];exact IntWalk.i64_in _ (by omega)
        have hkn:(k:Int)<(n:Int):=by omega
        have hk00:(0:Int)≤(k:Int):=by omega
        clear cp' ck' hR2 hpv hpe hk0
        go_wp2_with fail
        refine (HO.out _).mono ?_;rintro e w2 ⟨rfl,hb2⟩;have hB3:=hB.trans (hb2.mono hB.size);have HB2:=Hj (fun j=>below_drewN hB3 j);have y1:=(hB3.cell (p:=⟨b,o+(k+1)*2+1,none⟩) hb).trans HCK.out;have y2:=(hB3.cell (p:=⟨b,o+k*2+1,none⟩) hb).trans HCP.out;clear hb2 HO hB3;by_cases hfl:v≤p
        ·have hfe:flw false v p=false:=by unfold flw;simp;omega
         have HN:=Hj (show RchR false l (k+1+1) 3 from Or.inr ⟨by decide,by rw [HR2.out,hfe];rfl⟩);have d9:decide (v≤p)=true:=by simpa using hfl
         clear hfe
         go_wp2_with fail
         go_quiet (fail)
         go_wp2;go_roundw
         case rel=>exact ⟨k+1+1,3,by omega,by go_num,rfl,HN.out,HB2.out _⟩
         case measure=>simp [intOf];omega
        ·have hfe:flw false v p=true:=by unfold flw;simp;omega
         have HN:=Hj (show RchR false l (k+1+1) 0 from Or.inl ⟨rfl,by rw [HR2.out,hfe,HPV.out];rfl⟩);have d9:decide (v≤p)=false:=by simpa using hfl
         clear hfe
         go_wp2_with fail
         go_quiet (fail)
         go_wp2;go_roundw
         case rel=>exact ⟨k+1+1,0,by omega,by go_num,rfl,HN.out,HB2.out _⟩
         case measure=>simp [intOf];omega
     ·obtain rfl:k=n:=by omega
      have e:chkFrom false none l=0:=by rw [HR.out,List.drop_of_length_le (by rw [HL.out];exact Nat.le_refl _)];exact chkFrom_nil _ _
      have E:=Hj e;clear e;go_wp2;go_ret;rw [E.out];exact ⟨rfl,hB⟩
    ·have e:chkFrom false none l=x:=by
      rcases hR.out with ⟨hh,_⟩|⟨_,hh⟩
      ·exact absurd hh hx
      ·exact hh
     have E:=Hj e;have dx:(x == 0)=false:=by simpa using hx
     clear e hR;by_cases hlt:k<n
     ·have hki2:(k:Int)<(n:Int):=by omega
      go_wp2;go_ret;rw [E.out];exact ⟨rfl,hB⟩
     ·have hki2:¬ (k:Int)<(n:Int):=by omega
      go_wp2;go_ret;rw [E.out];exact ⟨rfl,hB⟩
theorem rcurve_any (A:Option Addr) (n c:Nat) (l:List (Int×Int)) (w:World) (h:StAt w A n l) :
  Calls Tryz.prog 203 #[.slice A n c] w fun e w'=>e=.returned (.int .i64 (curveE l))∧Below w.heap.size w w':=by
 have T1:=rcheck_dn A n c l w h;have HT2:=Hj (fun W hW=>rcheck_up A n c l W (h.below hW));by_cases h0:chk false l=0
 ·have e:curveE l=0:=by unfold curveE;rw [if_pos h0]
  rw [e];rw [h0] at T1;have HT1:=Hj T1;clear T1 h h0 e;go_enter Tryz.func203,Tryz.ntmps203
  go_wp2_with fail
  refine HT1.out.mono ?_;rintro e w1 ⟨rfl,hb1⟩;go_wp2;go_ret;exact ⟨rfl,hb1⟩
 ·have e:curveE l=chk true l:=by unfold curveE;rw [if_neg h0]
  rw [e];clear e;generalize chk false l=x at *;have dx:(x == 0)=false:=by simpa using h0
  have HT1:=Hj T1;clear T1 h h0;go_enter Tryz.func203,Tryz.ntmps203
  go_wp2_with fail
  refine HT1.out.mono ?_;rintro e w1 ⟨rfl,hb1⟩;have HB1:=Hj hb1;clear hb1
  go_wp2_with fail
  refine (HT2.out w1 HB1.out).mono ?_;rintro e w2 ⟨rfl,hb2⟩;have HB2:=Hj (HB1.out.trans (hb2.mono HB1.out.size));clear hb2;go_wp2;go_ret;exact ⟨rfl,HB2.out⟩
theorem rsum_any (A:Option Addr) (n c:Nat) (l:List (Int×Int)) (w:World) (h:StAt w A n l) :
  Calls Tryz.prog 204 #[.slice A n c] w fun e w'=>e=.returned (.int .i64 (sumS l))∧Below w.heap.size w w':=by
 have HCV:=Hj (fun W (hW:Below w.heap.size w W)=>rcurve_any A n c l W (h.below hW));by_cases h0:curveE l=0
 ·obtain ⟨hn0,hn3,hok⟩:=curve_ok h0;have e:sumS l=qsum l:=by unfold sumS;rw [if_pos h0]
  rw [e];rw [h0] at HCV;have HST:=Hj h;have HOK:=Hj hok;have HLN:=Hj h.1;have hn3':n≤3:=by have:=h.1;omega
  clear h h0 e hok hn0 hn3;go_enter Tryz.func204,Tryz.ntmps204
  go_wp2_with fail
  go_loopw [3,4] (fun t3 t wr=>∃ k:Nat,k≤n∧t=.int .i64 k∧t3=.int .i64 (qsum (l.take k))∧Hid (Below w.heap.size w wr)) (fun _ t _=>n-(intOf t).toNat)
  case atStart=>exact ⟨0,Nat.zero_le _,rfl,rfl,Below.refl _ _⟩
  case round =>
   obtain ⟨k,hk,rfl,rfl,hB⟩:=hrel;by_cases hlt:k<n
   ·obtain ⟨b,o,rfl,hb,hcell⟩:=HST.out.2.2 (by omega);obtain ⟨ck,-⟩:=hcell k hlt;have HCK:=Hj ck;have hki1:(0:Int)≤(k:Int):=by omega
    have hki2:(k:Int)<(n:Int):=by omega
    have hts:=take_snocS (l:=l) (k:=k) (by rw [HLN.out];exact hlt);have hqs:qsum (l.take (k+1))=qsum (l.take k)+(l[k]?.getD (0,0)).1:=by rw [hts,qsum_snoc]
    have hmem:(l[k]?.getD (0,0))∈l:=by rw [List.getElem?_eq_getElem (by rw [HLN.out];exact hlt)];exact List.getElem_mem _
    have hbad:=HOK.out _ hmem;unfold Bad at hbad;have hbd:=qsum_bd (l.take k) (fun s hs=>HOK.out s (List.mem_of_mem_take hs));have hl2:(l.take k).length≤3:=by have:=List.length_take_le k l;omega
    generalize (l[k]?.getD (0,0)).1=q at *;have q1:1≤q:=by omega
    have q2:q≤1000000:=by omega
    have HQS:=Hj hqs;clear hqs hts hmem hbad ck hcell;generalize qsum (l.take k)=s at *;have s1:0≤s:=by omega
    have s2:s≤3000000:=by omega
    clear hbd hl2
    go_wp2_with fail
    refine (HCV.out _ hB.out).mono ?_;rintro e w2 ⟨rfl,hb2⟩;have hB3:=hB.out.trans (hb2.mono hB.out.size);have y1:=(hB3.cell (p:=⟨b,o+k*2,none⟩) hb).trans HCK.out;have HB2:=Hj hB3;clear hb2 hB3;go_wp2;go_roundw
    case rel=>exact ⟨k+1,by omega,by go_num,by rw [HQS.out],HB2.out⟩
    case measure=>simp [intOf];omega
   ·obtain rfl:k=n:=by omega
    have hta:l.take k=l:=List.take_of_length_le (by rw [HLN.out];exact Nat.le_refl _);rw [hta];clear hta;go_wp2;go_ret;exact ⟨rfl,hB.out⟩
 ·have e:sumS l=0:=by unfold sumS;rw [if_neg h0]
  rw [e];clear e h;generalize curveE l=x at *;have dx:(x == 0)=false:=by simpa using h0
  clear h0;by_cases hn:n=0
  ·subst hn;go_enter Tryz.func204,Tryz.ntmps204
   go_wp2_with fail
   refine wp_loop_rounds 1 ?_;rw [rounds_succ];go_wp2;go_ret;exact ⟨rfl,Below.refl _ _⟩
  ·have hnp:(0:Int)<(n:Int):=by omega
   have hnp':0<n:=by omega
   go_enter Tryz.func204,Tryz.ntmps204
   go_wp2_with fail
   refine wp_loop_rounds 1 ?_;rw [rounds_succ]
   go_wp2_with fail
   refine (HCV.out _ (Below.refl _ _)).mono ?_;rintro e w2 ⟨rfl,hb2⟩;go_wp2;go_ret;exact ⟨rfl,hb2⟩
def PB (k:Nat):Nat:=4294967296 ^ (7*3 ^ k)
def Lv (k:Nat) (q:Rat):Prop:=q.num.natAbs<PB k∧q.den<PB k
theorem lv_mk {n:Int} {d N:Nat} (hd:d≠0) (h1:n.natAbs<N) (h2:d<N):(mkRat n d).num.natAbs<N∧(mkRat n d).den<N:=by
 rw [mk_num _ _ hd,mk_den _ _ hd,Int.natAbs_tdiv,Int.natAbs_natCast];exact ⟨Nat.lt_of_le_of_lt (Nat.div_le_self _ _) h1,Nat.lt_of_le_of_lt (Nat.div_le_self _ _) h2⟩
theorem Lv.self (q:Rat):q=mkRat q.num ((q.den:Nat):Int).natAbs:=by rw [Int.natAbs_natCast,Rat.mkRat_self]
section
variable {k:Nat} {a b:Rat}
end
def QK (k:Nat) (w:World) (neg:Bool) (A:Option Addr) (n c:Nat) (neg':Bool) (A':Option Addr) (n' c':Nat) (q:Rat):Prop:=QAt (PB k) (PB k) w neg A n c neg' A' n' c' q
section
variable {k j:Nat} {w w':World} {an an' bn bn':Bool} {aA aA' bA bA':Option Addr} {ak ac ak' ac' bk bc bk' bc':Nat} {q qa qb:Rat}
end
def RQ (w:World) (q:Rat) (A:Option Addr) (k c:Nat) (A':Option Addr) (k' c':Nat):Prop:=k≤c∧k'≤c'∧Wat w A k (digs q.num.natAbs)∧Wat w A' k' (denW q.den)
section
variable {w w':World} {q:Rat} {A A':Option Addr} {k c k' c':Nat}
theorem RQ.below (h:RQ w q A k c A' k' c') (hb:Below w.heap.size w w'):RQ w' q A k c A' k' c':=⟨h.1,h.2.1,h.2.2.1.below hb,h.2.2.2.below hb⟩
theorem RQ.put4 {g o:Nat} {a b:Bool} {B B':Option Addr} {j d j' d':Nat} {t:TypeId} {cs:Array Value} (h:RQ w q A k c A' k' c') (hb:Blk w g t cs) (hn:NoInt cs):RQ (qst w g o a b B B' j d j' d') q A k c A' k' c' :=
 ⟨h.1,h.2.1,h.2.2.1.put4 hb hn,h.2.2.2.put4 hb hn⟩
end
def vh:List Int→Nat
 | []=>0
 | d :: l=>d.toNat+65536*vh l
theorem vh_cons (d:Int) (l:List Int):vh (d :: l)=d.toNat+65536*vh l:=rfl
theorem Dg.nil:Dg []:=fun i=>by simp
theorem Dg.head {d:Int} {l:List Int} (h:Dg (d :: l)):0≤d∧d<65536:=by have:=h 0;simpa using this
theorem Dg.tail {d:Int} {l:List Int} (h:Dg (d :: l)):Dg l:=fun i=>by have:=h (i+1);simpa using this
theorem Dg.cons {d:Int} {l:List Int} (h0:0≤d) (h1:d<65536) (h:Dg l):Dg (d :: l):=fun i=>by
 match i with
 | 0=>simp;omega
 | i+1=>have:=h i;simpa using this
theorem Dg.snoc {d:Int} {l:List Int} (h:Dg l) (h0:0≤d) (h1:d<65536):Dg (l ++ [d]):=by
 induction l with
 | nil=>exact Dg.cons h0 h1 Dg.nil
 | cons e l ih=>exact Dg.cons h.head.1 h.head.2 (ih h.tail)
theorem vh_snoc (a:List Int) (d:Int):vh (a ++ [d])=vh a+65536 ^ a.length*d.toNat:=by
 induction a with
 | nil=>simp [vh]
 | cons e a ih =>
  simp only [List.cons_append,vh_cons,ih,List.length_cons,Nat.pow_succ,Nat.mul_add];rw [show 65536*(65536 ^ a.length*d.toNat)=65536 ^ a.length*65536*d.toNat by
   rw [← Nat.mul_assoc,Nat.mul_comm 65536 (65536 ^ a.length)]]
  omega
theorem vh_lt {l:List Int} (h:Dg l):vh l<65536 ^ l.length:=by
 induction l with
 | nil=>simp [vh]
 | cons d l ih =>
  have h1:=ih h.tail;have h2:=h.head;simp only [vh_cons,List.length_cons,Nat.pow_succ];omega
theorem vh_get {l:List Int} (h:Dg l) (i:Nat):l[i]?.getD 0=((vh l / 65536 ^ i % 65536:Nat):Int):=by
 induction l generalizing i with
 | nil=>simp [vh]
 | cons d l ih =>
  have h2:=h.head
  match i with
  | 0=>simp [vh_cons];omega
  | i+1 =>
   rw [List.getElem?_cons_succ,ih h.tail i,vh_cons,Nat.pow_succ,Nat.mul_comm (65536 ^ i),← Nat.div_div_eq_div_mul,show (d.toNat+65536*vh l) / 65536=vh l by omega]
def hd (n:Nat):List Int:=if h:n=0 then [] else ((n % 65536:Nat):Int) :: hd (n / 65536)
 termination_by n
 decreasing_by exact Nat.div_lt_self (Nat.pos_of_ne_zero h) (by decide)
theorem hd_zero:hd 0=[]:=by rw [hd];simp
theorem hd_pos {n:Nat} (h:n≠0):hd n=((n % 65536:Nat):Int) :: hd (n / 65536):=by
 rw [hd];simp [h]
theorem vh_hd (n:Nat):vh (hd n)=n:=by
 induction n using Nat.strongRecOn with
 | _ n ih =>
  rcases Nat.eq_zero_or_pos n with h0|h0
  ·subst h0;rw [hd_zero];rfl
  ·rw [hd_pos (by omega),vh_cons,ih _ (Nat.div_lt_self h0 (by decide)),Int.toNat_natCast];omega
theorem hd_Dg (n:Nat):Dg (hd n):=by
 induction n using Nat.strongRecOn with
 | _ n ih =>
  rcases Nat.eq_zero_or_pos n with h0|h0
  ·subst h0;rw [hd_zero];exact Dg.nil
  ·rw [hd_pos (by omega)];exact Dg.cons (by omega) (by omega) (ih _ (Nat.div_lt_self h0 (by decide)))
theorem hd_len_le {n k:Nat}:(hd n).length≤k↔n<65536 ^ k:=by
 induction k generalizing n with
 | zero =>
  constructor
  ·intro h;rcases Nat.eq_zero_or_pos n with h0|h0
   ·omega
   ·rw [hd_pos (by omega)] at h;simp at h
  ·intro h;have:n=0:=by simpa using h
   subst this;rw [hd_zero];simp
 | succ k ih =>
  rcases Nat.eq_zero_or_pos n with h0|h0
  ·subst h0;rw [hd_zero];simp [Nat.pow_pos]
  ·rw [hd_pos (by omega),List.length_cons,Nat.pow_succ];have:=@ih (n / 65536);rw [Nat.add_le_add_iff_right,this,Nat.div_lt_iff_lt_mul (by decide)]
theorem hd_len_zero {n:Nat}:(hd n).length=0↔n=0:=by
 have:=@hd_len_le n 0;simp only [Nat.pow_zero] at this;omega
theorem hd_len_mono {m n:Nat} (h:m≤n):(hd m).length≤(hd n).length:=by
 rw [hd_len_le];have:=(@hd_len_le n (hd n).length).1 (Nat.le_refl _);omega
theorem hd_vh {l:List Int} (h:Dg l) (hl:∀ j,l.length=j+1→l[j]?.getD 0≠0):hd (vh l)=l:=by
 induction l with
 | nil=>exact hd_zero
 | cons d l ih =>
  have h2:=h.head;have hl2:∀ j,l.length=j+1→l[j]?.getD 0≠0:=fun j hj=>by
   have:=hl (j+1) (by rw [List.length_cons,hj])
   rwa [List.getElem?_cons_succ] at this
  have e:=ih h.tail hl2;have hne:vh (d :: l)≠0:=by
   intro h0;rw [vh_cons] at h0;have hv:vh l=0:=by omega
   rw [hv,hd_zero] at e;subst e;have:=hl 0 rfl;simp at this;omega
  rw [vh_cons] at hne ⊢;rw [hd_pos hne,show (d.toNat+65536*vh l) / 65536=vh l by omega,e,show (d.toNat+65536*vh l) % 65536=d.toNat by omega,Int.toNat_of_nonneg h2.1]
theorem vh_take_zero {l:List Int} {k:Nat} (h:∀ i,k≤i→l[i]?.getD 0=0):vh (l.take k)=vh l:=by
 induction l generalizing k with
 | nil=>simp
 | cons d l ih =>
  match k with
  | 0 =>
   have h0:=h 0 (Nat.le_refl _);have:=ih (k:=0) fun i hi=>by have:=h (i+1) (by omega);rwa [List.getElem?_cons_succ] at this
   simp at h0;simp [vh] at this ⊢;omega
  | k+1 =>
   rw [List.take_succ_cons,vh_cons,vh_cons,ih fun i hi=>by have:=h (i+1) (by omega);rwa [List.getElem?_cons_succ] at this]
theorem tl_hd {l:List Int} (h:Dg l):l.take (tl l l.length)=hd (vh l)∧tl l l.length=(hd (vh l)).length:=by
 have h1:vh (l.take (tl l l.length))=vh l:=vh_take_zero fun i hi=>by
  by_cases h:i<l.length
  ·exact tl_zero _ hi h
  ·rw [List.getElem?_eq_none (by omega)];rfl
 have h2:(l.take (tl l l.length)).length=tl l l.length:=by rw [List.length_take,Nat.min_eq_left (tl_le _ _)]
 have h3:=hd_vh (l:=l.take (tl l l.length)) (h.take _) fun j hj=>by
  rw [h2] at hj;rw [List.getElem?_take,if_pos (by omega)];exact tl_last l hj
 rw [h1] at h3;exact ⟨h3.symm,by rw [h3,h2]⟩
theorem vh_halves {l:List Nat} (hw:Ws l):vh (halvesL l)=val l:=by
 induction l with
 | nil=>rfl
 | cons d l ih =>
  have e:halvesL (d :: l)=[((d:Nat):Int) % 65536,((d:Nat):Int) / 65536] ++ halvesL l:=by unfold halvesL;rw [List.flatMap_cons]
  have hd:=hw.head;rw [e,val_cons];simp only [List.cons_append,List.nil_append,vh_cons,ih hw.tail];omega
theorem half_len {v K:Nat} (h:v<4294967296 ^ K):(hd v).length≤2*K:=by
 rw [hd_len_le,Nat.pow_mul];exact h
theorem words_hd (v:Nat):wdsL (hd v) (((hd v).length+1) / 2)=digs v:=by
 have h:=least_digs (digs_Ws v);have e:=tl_hd (halvesL_Dg (digs_Ws v));rw [vh_halves (digs_Ws v),val_digs,halvesL_len] at e;rw [e.1,e.2,val_digs] at h;exact h
def cmpN (a b:Nat):Int:=if a<b then -1 else if b<a then 1 else 0
theorem div_step (a i:Nat):a / 65536 ^ i=65536*(a / 65536 ^ (i+1))+a / 65536 ^ i % 65536:=by
 rw [Nat.pow_succ,← Nat.div_div_eq_div_mul];omega
theorem lt_of_div {a b i:Nat} (h:a / 65536 ^ i<b / 65536 ^ i):a<b:=by
 rcases Nat.lt_or_ge a b with h1|h1
 ·exact h1
 ·have:=Nat.div_le_div_right (c:=65536 ^ i) h1;omega
theorem mod_step (a i:Nat):a % 65536 ^ (i+1)=a % 65536 ^ i+65536 ^ i*(a / 65536 ^ i % 65536):=by
 rw [Nat.pow_succ,Nat.mod_mul]
theorem quo_step (a b i:Nat) (hb:0<b):(a / 65536 ^ (i+1) % b*65536+a / 65536 ^ i % 65536) / b=a / b / 65536 ^ i % 65536∧(a / 65536 ^ (i+1) % b*65536+a / 65536 ^ i % 65536) % b=a / 65536 ^ i % b:=by
 have e1:=div_step a i;have e2:=Nat.div_add_mod (a / 65536 ^ (i+1)) b;have e3:=Nat.mod_lt (a / 65536 ^ (i+1)) hb;have e4:a / b / 65536 ^ i=a / 65536 ^ i / b:=by rw [Nat.div_div_eq_div_mul,Nat.mul_comm,← Nat.div_div_eq_div_mul]
 have e5:a / 65536 ^ i % 65536<65536:=Nat.mod_lt _ (by decide);rw [e4];generalize a / 65536 ^ (i+1)=X at *;generalize a / 65536 ^ i=Y at *;generalize X % b=R at *;generalize hQ:X / b=Q at *;generalize Y % 65536=D at *;have e6:Y=b*(65536*Q)+(R*65536+D):=by
  rw [e1,← e2,Nat.mul_add,Nat.mul_left_comm];omega
 have e7:(R*65536+D) / b<65536:=by
  rw [Nat.div_lt_iff_lt_mul hb];have:(R+1)*65536≤b*65536:=Nat.mul_le_mul_right _ e3;omega
 refine ⟨?_,by rw [e6,Nat.mul_add_mod]⟩;rw [e6,Nat.mul_add_div hb,Nat.mul_add_mod,Nat.mod_eq_of_lt e7]
def RA (w:World) (A:Option Addr) (n c v:Nat):Prop:=∃ hs,IsAt w A n hs∧Dg hs∧vh hs=v∧n≤c
def HA (w:World) (A:Option Addr) (n c v:Nat):Prop:=n=(hd v).length∧IsAt w A n (hd v)∧n≤c
section
variable {w w':World} {A:Option Addr} {n c v:Nat}
theorem HA.ra (h:HA w A n c v):RA w A n c v:=⟨hd v,h.2.1,hd_Dg v,vh_hd v,h.2.2⟩
theorem RA.below (h:RA w A n c v) (hb:Below w.heap.size w w'):RA w' A n c v:=by
 obtain ⟨hs,h1,h2⟩:=h;exact ⟨hs,h1.below hb,h2⟩
theorem HA.below (h:HA w A n c v) (hb:Below w.heap.size w w'):HA w' A n c v:=⟨h.1,h.2.1.below hb,h.2.2⟩
theorem RA.lt (h:RA w A n c v):v<65536 ^ n:=by
 obtain ⟨hs,h1,h2,h3,h4⟩:=h;have:=vh_lt h2;rw [h1.1,h3] at this;exact this
theorem HA.len (h:HA w A n c v) {k:Nat} (hk:v<65536 ^ k):n≤k:=by rw [h.1];exact hd_len_le.2 hk
theorem HA.zero (h:HA w A n c v):n=0↔v=0:=by rw [h.1];exact hd_len_zero
theorem RA.nil:RA w none 0 0 0:=⟨[],⟨rfl,fun h=>absurd rfl h⟩,Dg.nil,rfl,Nat.le_refl _⟩
end
def dg (v i:Nat):Nat:=v / 65536 ^ i % 65536
theorem dg_lt (v i:Nat):dg v i<65536:=Nat.mod_lt _ (by decide)
theorem trim_at (A:Option Addr) (n c v:Nat) (w:World) (h:RA w A n c v) (hn:n≤1000000000000) :
  Calls Tryz.prog 211 #[.slice A n c] w fun e w'=>∃ A1 n1,e=.returned (.slice A1 n1 c)∧HA w' A1 n1 c v∧w'=w∧∀ b o,A=some ⟨b,o,none⟩→A1=some ⟨b,o,none⟩:=by
 obtain ⟨hs,h1,h2,h3,h4⟩:=h;refine (rtrim_at A n c hs w h1 h4 hn).mono ?_;rintro e w' ⟨A1,rfl,hI,rfl,hAA⟩;have e1:=tl_hd h2;rw [h1.1,h3] at e1;rw [e1.1] at hI;exact ⟨A1,tl hs n,rfl,⟨e1.2,hI,Nat.le_trans (tl_le _ _) h4⟩,rfl,hAA⟩
theorem trim_ra (A:Option Addr) (n c v:Nat) (w:World) (h:RA w A n c v) (hn:n≤1000000000000) :
  Calls Tryz.prog 211 #[.slice A n c] w fun e w'=>∃ A1 n1,e=.returned (.slice A1 n1 c)∧HA w' A1 n1 c v∧w'=w :=
 (trim_at A n c v w h hn).mono fun e w' ⟨A1,n1,h1,h2,h3,_⟩=>⟨A1,n1,h1,h2,h3⟩
theorem at_ra (A:Option Addr) (n c v i:Nat) (w:World) (h:RA w A n c v) :
  Calls Tryz.prog 212 #[.slice A n c,.int .i64 i] w fun e w'=>e=.returned (.int .i64 ((dg v i:Nat):Int))∧w'=w:=by
 obtain ⟨hs,h1,h2,h3,h4⟩:=h;have:=rat_any A n c i hs w h1;rw [vh_get h2,h3] at this;exact this
theorem halves_any (A:Option Addr) (n c:Nat) (l:List Nat) (w:World) (h:Wat w A n l) (hn:n≤100000000000) :
  Calls Tryz.prog 186 #[.slice A n c] w fun e w'=>∃ A1 n1 c1,e=.returned (.slice A1 n1 c1)∧HA w' A1 n1 c1 (val l)∧Below w.heap.size w w':=by
 refine (rhalves_any A n c l w h hn).mono ?_;rintro e w' ⟨A1,c1,rfl,hI,hb,hc⟩;have e1:=tl_hd (halvesL_Dg h.2.1);rw [halvesL_len,h.1,vh_halves h.2.1] at e1;rw [e1.1] at hI;exact ⟨A1,_,c1,rfl,⟨e1.2,hI,hc⟩,hb⟩
theorem of_any (neg:Bool) (A:Option Addr) (n c v:Nat) (w:World) (h:RA w A n c v) (hn:n≤1000000000000) :
  Calls Tryz.prog 184 #[.bool neg,.slice A n c] w (RetZ w (sg neg v)):=by
 obtain ⟨hs,h1,h2,h3,h4⟩:=h;refine (rof_any neg A n c hs w h1 h4 hn h2).mono fun e w' hr=>?_;have e1:=tl_hd h2;rw [h1.1,h3] at e1;rw [e1.1,e1.2,words_hd] at hr;have h2:=val_digs v;rw [← h2] at hr;have:=hr.toZ (digs_Ws v)
 rwa [h2] at this
theorem cmp_step {a b k:Nat} (h:a / 65536 ^ (k+1)=b / 65536 ^ (k+1)):(dg a k<dg b k→a<b)∧(dg b k<dg a k→b<a)∧(dg a k=dg b k→a / 65536 ^ k=b / 65536 ^ k):=by
 have e1:=div_step a k;have e2:=div_step b k;unfold dg;exact ⟨fun h1=>lt_of_div (i:=k) (by omega),fun h1=>lt_of_div (i:=k) (by omega),fun h1=>by omega⟩
theorem cmp_lt {a b:Nat} (h:a<b):cmpN a b = -1:=by unfold cmpN;rw [if_pos h]
theorem cmp_gt {a b:Nat} (h:b<a):cmpN a b=1:=by unfold cmpN;rw [if_neg (by omega),if_pos h]
theorem cmp_eq (a:Nat):cmpN a a=0:=by unfold cmpN;simp
theorem cmp_ra (A B:Option Addr) (n c m d a b:Nat) (w:World) (h:RA w A n c a) (h':RA w B m d b) (hn:n≤1000000000000) (hm:m≤1000000000000) :
  Calls Tryz.prog 188 #[.slice A n c,.slice B m d] w fun e w'=>e=.returned (.int .i64 (cmpN a b))∧w'=w:=by
 have TA:=Hj (fun (i:Nat)=>at_ra A n c a i w h);have TB:=Hj (fun (i:Nat)=>at_ra B m d b i w h');obtain ⟨p,hp1,hp2,hp3⟩:∃ p:Nat,max (n:Int) (m:Int)=(p:Int)∧a / 65536 ^ p=b / 65536 ^ p∧p≤1000000000000:=by
  refine ⟨max n m,by omega,?_,by omega⟩;rw [Nat.div_eq_of_lt (Nat.lt_of_lt_of_le h.lt (Nat.pow_le_pow_right (by decide) (Nat.le_max_left n m))),Nat.div_eq_of_lt (Nat.lt_of_lt_of_le h'.lt (Nat.pow_le_pow_right (by decide) (Nat.le_max_right n m)))]
 have hp4:(if (n:Int)<(m:Int) then (m:Int) else (n:Int))=(p:Int):=by rw [← hp1];split<;>omega
 have hp5:(if n<m then (m:Int) else (n:Int))=(p:Int):=by rw [← hp1];split<;>omega
 have HP:=Hj hp2;clear hp2 h h';go_enter Tryz.func188,Tryz.ntmps188
 go_wp2_with fail
 go_loopw [5] (fun t wr=>∃ k:Nat,k≤p∧t=.int .i64 ((k:Int)-1)∧Hid (a / 65536 ^ k=b / 65536 ^ k∧wr=w)) (fun t _=>(intOf t+1).toNat)
 case atStart=>exact ⟨p,Nat.le_refl _,by first|rfl|go_num,HP.out,rfl⟩
 case round =>
  obtain ⟨k,hk,rfl,hR⟩:=hrel;obtain ⟨hR1,rfl⟩:=hR.out;by_cases h0:k=0
  ·subst h0;have hab:a=b:=by simpa using hR1
   subst hab;have HC:=Hj (cmp_eq a);clear hR hR1;go_wp2;go_ret;exact ⟨by rw [HC.out];rfl,rfl⟩
  ·obtain ⟨j,rfl⟩:∃ j,k=j+1:=⟨k-1,by omega⟩;have ej:(((j+1:Nat):Int)-1)=(j:Int):=by omega
   have hs:=Hj (cmp_step hR1);have T1:=Hj (TA.out j);have T2:=Hj (TB.out j);generalize dg a j=x at *;generalize dg b j=y at *;simp only [ej];clear hR hR1 TA TB HP;have tri:x<y∨y<x∨x=y:=by omega
   rcases tri with h1|h1|h1
   ·have d1:decide (x<y)=true:=decide_eq_true (by omega);have HC:=Hj (cmp_lt (hs.out.1 h1));clear h1
    go_wp2_with fail
    refine T1.out.mono ?_;rintro e w2 ⟨rfl,rfl⟩
    go_wp2_with fail
    refine T2.out.mono ?_;rintro e w3 ⟨rfl,rfl⟩;go_wp2;go_ret;exact ⟨by rw [HC.out];rfl,rfl⟩
   ·have d1:decide (x<y)=false:=decide_eq_false (by omega);have d2:decide (y<x)=true:=decide_eq_true (by omega);have HC:=Hj (cmp_gt (hs.out.2.1 h1));clear h1
    go_wp2_with fail
    refine T1.out.mono ?_;rintro e w2 ⟨rfl,rfl⟩
    go_wp2_with fail
    refine T2.out.mono ?_;rintro e w3 ⟨rfl,rfl⟩
    go_wp2_with fail
    refine T1.out.mono ?_;rintro e w2 ⟨rfl,rfl⟩
    go_wp2_with fail
    refine T2.out.mono ?_;rintro e w3 ⟨rfl,rfl⟩;go_wp2;go_ret;exact ⟨by rw [HC.out];rfl,rfl⟩
   ·subst h1;have HC:=Hj (hs.out.2.2 rfl);have d1:decide (x<x)=false:=decide_eq_false (by omega)
    go_wp2_with fail
    refine T1.out.mono ?_;rintro e w2 ⟨rfl,rfl⟩
    go_wp2_with fail
    refine T2.out.mono ?_;rintro e w3 ⟨rfl,rfl⟩
    go_wp2_with fail
    refine T1.out.mono ?_;rintro e w2 ⟨rfl,rfl⟩
    go_wp2_with fail
    refine T2.out.mono ?_;rintro e w3 ⟨rfl,rfl⟩;go_wp2;go_roundw
    case rel=>exact ⟨j,by omega,by first|rfl|go_num,HC.out,by first|rfl|trivial⟩
    case measure=>simp [intOf]
theorem mod_dg (a i:Nat):a % 65536 ^ (i+1)=a % 65536 ^ i+65536 ^ i*dg a i:=mod_step a i
def AddI (a b i:Nat) (hs:List Int) (cy:Nat):Prop:=hs.length=i∧Dg hs∧vh hs+65536 ^ i*cy=a % 65536 ^ i+b % 65536 ^ i∧cy≤1
theorem AddI.start (a b:Nat):AddI a b 0 [] 0:=⟨rfl,Dg.nil,by simp [vh,Nat.mod_one],by omega⟩
theorem snoc_val {hs:List Int} {i x:Nat} (hl:hs.length=i):vh (hs ++ [((x % 65536:Nat):Int)])+65536 ^ (i+1)*(x / 65536)=vh hs+65536 ^ i*x:=by
 rw [vh_snoc,hl,Int.toNat_natCast,Nat.pow_succ,Nat.mul_assoc,Nat.add_assoc,← Nat.mul_add,Nat.mod_add_div]
theorem AddI.step {a b i cy:Nat} {hs:List Int} (h:AddI a b i hs cy):AddI a b (i+1) (hs ++ [(((dg a i+dg b i+cy) % 65536:Nat):Int)]) ((dg a i+dg b i+cy) / 65536):=by
 obtain ⟨h1,h2,h3,h4⟩:=h;have:=dg_lt a i;have:=dg_lt b i;refine ⟨by simp [h1],h2.snoc (by omega) (by omega),?_,by omega⟩;rw [snoc_val h1,mod_dg,mod_dg,Nat.mul_add,Nat.mul_add];omega
theorem AddI.done {a b i:Nat} {hs:List Int} (h:AddI a b i hs 0) (ha:a<65536 ^ i) (hb:b<65536 ^ i):vh hs=a+b:=by
 have:=h.2.2.1;rw [Nat.mod_eq_of_lt ha,Nat.mod_eq_of_lt hb] at this;omega
def SubI (a b i:Nat) (hs:List Int) (lt:Nat):Prop:=hs.length=i∧Dg hs∧vh hs+b % 65536 ^ i=a % 65536 ^ i+65536 ^ i*lt∧lt≤1
theorem SubI.start (a b:Nat):SubI a b 0 [] 0:=⟨rfl,Dg.nil,by simp [vh,Nat.mod_one],by omega⟩
theorem SubI.step0 {a b i lt:Nat} {hs:List Int} (h:SubI a b i hs lt) (hv:dg b i+lt≤dg a i):SubI a b (i+1) (hs ++ [((dg a i:Nat):Int)-(dg b i:Nat)-(lt:Nat)]) 0:=by
 obtain ⟨h1,h2,h3,h4⟩:=h;have:=dg_lt a i;refine ⟨by simp [h1],h2.snoc (by omega) (by omega),?_,by omega⟩;rw [vh_snoc,h1,mod_dg,mod_dg,show (((dg a i:Nat):Int)-(dg b i:Nat)-(lt:Nat)).toNat=dg a i-dg b i-lt by omega];obtain ⟨k,hk⟩:∃ k,dg a i=dg b i+lt+k:=⟨dg a i-dg b i-lt,by omega⟩;rw [hk,show dg b i+lt+k-dg b i-lt=k by omega,Nat.mul_add,Nat.mul_add];omega
theorem SubI.step1 {a b i lt:Nat} {hs:List Int} (h:SubI a b i hs lt) (hv:dg a i<dg b i+lt):SubI a b (i+1) (hs ++ [((dg a i:Nat):Int)-(dg b i:Nat)-(lt:Nat)+65536]) 1:=by
 obtain ⟨h1,h2,h3,h4⟩:=h;have:=dg_lt a i;have:=dg_lt b i;refine ⟨by simp [h1],h2.snoc (by omega) (by omega),?_,by omega⟩;rw [vh_snoc,h1,mod_dg,mod_dg,show (((dg a i:Nat):Int)-(dg b i:Nat)-(lt:Nat)+65536).toNat=dg a i+65536-dg b i-lt by omega];obtain ⟨k,hk⟩:∃ k,dg a i+65536=dg b i+lt+k:=⟨dg a i+65536-dg b i-lt,by omega⟩;have e:=congrArg (65536 ^ i * ·) hk;simp only [Nat.mul_add] at e;rw [hk,show dg b i+lt+k-dg b i-lt=k by omega,Nat.pow_succ];omega
theorem SubI.done {a b i lt:Nat} {hs:List Int} (h:SubI a b i hs lt) (ha:a<65536 ^ i) (hb:b≤a):vh hs=a-b:=by
 obtain ⟨h1,h2,h3,h4⟩:=h;have hl:=vh_lt h2;rw [h1] at hl;rw [Nat.mod_eq_of_lt ha,Nat.mod_eq_of_lt (by omega)] at h3;obtain rfl|rfl:lt=0∨lt=1:=by omega
 ·omega
 ·omega
def TimI (b n i:Nat) (hs:List Int) (cy:Nat):Prop:=hs.length=i∧Dg hs∧vh hs+65536 ^ i*cy=b % 65536 ^ i*n∧cy<65536
theorem TimI.start (b n:Nat):TimI b n 0 [] 0:=⟨rfl,Dg.nil,by simp [vh,Nat.mod_one],by omega⟩
theorem dg_mul_le (b i:Nat) {n:Nat} (hn:n≤65536):dg b i*n≤65535*65536:=Nat.mul_le_mul (by have:=dg_lt b i;omega) hn
theorem TimI.step {b n i cy:Nat} {hs:List Int} (h:TimI b n i hs cy) (hn:n≤65536):TimI b n (i+1) (hs ++ [(((dg b i*n+cy) % 65536:Nat):Int)]) ((dg b i*n+cy) / 65536):=by
 obtain ⟨h1,h2,h3,h4⟩:=h;have:=dg_mul_le b i hn;refine ⟨by simp [h1],h2.snoc (by omega) (by omega),?_,by omega⟩;rw [snoc_val h1,mod_dg,Nat.mul_add,Nat.add_mul,Nat.mul_assoc];omega
theorem TimI.done {b n i:Nat} {hs:List Int} (h:TimI b n i hs 0) (hb:b<65536 ^ i):vh hs=b*n:=by
 have:=h.2.2.1;rw [Nat.mod_eq_of_lt hb] at this;omega
theorem dg_over {b i:Nat} (hb:b<65536 ^ i):dg b i=0:=by unfold dg;rw [Nat.div_eq_of_lt hb]
theorem lt_pow_le {b i k:Nat} (hb:b<65536 ^ i) (h:i≤k):b<65536 ^ k:=Nat.lt_of_lt_of_le hb (Nat.pow_le_pow_right (by decide) h)
theorem vh_list (v:Nat):∀ n,vh ((List.range n).map fun j=>((dg v j:Nat):Int))=v % 65536 ^ n
 | 0=>by simp [vh,Nat.mod_one]
 | n+1=>by
  rw [List.range_succ,List.map_append,List.map_cons,List.map_nil,vh_snoc,vh_list v n,mod_dg];simp
theorem Dg_of {hs:List Int} {v:Nat} (h:∀ j,j<hs.length→hs[j]?.getD 0=((dg v j:Nat):Int)):Dg hs:=fun j=>by
 by_cases hj:j<hs.length
 ·rw [h j hj];have:=dg_lt v j;omega
 ·rw [List.getElem?_eq_none (by omega)];simp
theorem vh_of {hs:List Int} {v:Nat} (h:∀ j,j<hs.length→hs[j]?.getD 0=((dg v j:Nat):Int)) (hv:v<65536 ^ hs.length):vh hs=v:=by
 have e:hs=(List.range hs.length).map fun j=>((dg v j:Nat):Int):=by
  apply List.ext_getElem (by simp);intro j h1 h2;have:=h j h1;rw [List.getElem?_eq_getElem h1] at this;simpa using this
 rw [e,vh_list,Nat.mod_eq_of_lt hv]
def QuoI (v n i:Nat) (hs:List Int):Prop:=hs.length=n∧∀ j,i≤j→j<n→hs[j]?.getD 0=((dg v j:Nat):Int)
theorem QuoI.start (v n:Nat):QuoI v n n (List.replicate n 0):=⟨by simp,fun j h1 h2=>by omega⟩
theorem QuoI.step {v n i:Nat} {hs:List Int} (h:QuoI v n (i+1) hs) (hi:i<n) {x:Nat} (hx:x=dg v i):QuoI v n i (hs.set i (x:Int)):=by
 refine ⟨by simp [h.1],fun j h1 h2=>?_⟩;rw [List.getElem?_set];by_cases hj:i=j
 ·subst hj;rw [if_pos rfl,if_pos (by rw [h.1];exact hi),hx];rfl
 ·rw [if_neg hj];exact h.2 j (by omega) h2
theorem QuoI.done {v n:Nat} {hs:List Int} (h:QuoI v n 0 hs) (hv:v<65536 ^ n):Dg hs∧vh hs=v:=by
 have e:∀ j,j<hs.length→hs[j]?.getD 0=((dg v j:Nat):Int):=fun j hj=>h.2 j (Nat.zero_le _) (by rw [← h.1];exact hj);exact ⟨Dg_of e,vh_of e (by rw [h.1];exact hv)⟩
def rst (a b i:Nat):Nat:=a / 65536 ^ i % b
theorem rst_step (a b i:Nat) (hb:0<b):(rst a b (i+1)*65536+dg a i) / b=dg (a / b) i∧(rst a b (i+1)*65536+dg a i) % b=rst a b i:=quo_step a b i hb
theorem rst_lt (a b i:Nat) (hb:0<b):rst a b i<b:=Nat.mod_lt _ hb
theorem rst_top {a b n:Nat} (ha:a<65536 ^ n):rst a b n=0:=by unfold rst;rw [Nat.div_eq_of_lt ha,Nat.zero_mod]
theorem rst_zero (a b:Nat):rst a b 0=a % b:=by unfold rst;rw [Nat.pow_zero,Nat.div_one]
theorem seek_done {lo hi b r:Nat} (hb:0<b) (h1:lo*b≤r) (h2:r<hi*b) (h3:hi≤lo+1):lo=r / b∧r-b*lo=r % b:=by
 have e:r<(lo+1)*b:=Nat.lt_of_lt_of_le h2 (Nat.mul_le_mul_right _ h3);have e2:r / b=lo:=by
  refine (Nat.div_eq_iff hb).2 ⟨h1,?_⟩;rw [Nat.add_mul] at e;omega
 have:=Nat.div_add_mod r b;rw [e2] at this;exact ⟨e2.symm,by omega⟩
theorem mul_step (a b j:Nat):65536*(a / 65536 ^ (j+1)*b)+dg a j*b=a / 65536 ^ j*b:=by
 have:=div_step a j;unfold dg;rw [← Nat.mul_assoc,← Nat.add_mul,← this]
end Go.Proofs.YtjajigkacccdgaaGreat
