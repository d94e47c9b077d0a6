/-
Lemmas of the walk; no further conditions.
-/
import Derived.Test.YtjajigkacccdgaaGreatTiAS
import Derived.Deep.RegionWith
import Derived.Deep.DrawnRows
set_option linter.unusedVariables false
set_option linter.unusedSimpArgs false
set_option maxRecDepth 100000
set_option maxHeartbeats 16000000
namespace Go.Proofs.YtjajigkacccdgaaGreat
open Go.RowKit
open Wd
theorem rchkl_any (A:Option Addr) (m c:Nat) (lv:List St.Lv) (w:World) (h:LsAt w A m lv) :
  Calls Tryz.prog 28 #[.slice A m c] w fun e w'=>e=.returned (.int .i64 (chkL lv))∧Below w.heap.size w w':=by
 have hl:=h.1;by_cases hm:48<m
 ·have d1:decide ((48:Int)<(m:Int))=true:=by simp;omega
  have HF:Hid (chkL lv=5):=Hj (by rw [chkL,if_pos (by omega)]);clear hm h hl;go_enter Tryz.func28,Tryz.ntmps28;go_wp2;go_ret;exact ⟨by rw [HF.out];rfl,Below.refl _ _⟩
 have d1:decide ((48:Int)<(m:Int))=false:=by simp;omega
 have HR:Hid (chkL lv=fst0 (chk1 lv) m):=Hj (by rw [chkL,if_neg (by omega),hl]);have HL:=Hj h;have HLN:=Hj hl;clear h hl;go_enter Tryz.func28,Tryz.ntmps28
 go_wp2_with fail
 go_loopw [3] (fun t wr=>∃ k:Nat,k≤m∧t=.int .i64 k∧Hid (Below w.heap.size w wr∧fst0 (chk1 lv) k=0)) (fun t _=>m-(intOf t).toNat)
 case atStart=>exact ⟨0,Nat.zero_le _,rfl,Hj ⟨Below.refl _ _,rfl⟩⟩
 case round =>
  obtain ⟨k,hk,rfl,hBJ⟩:=hrel;have hB:=Hj hBJ.out.1;have HJ:=Hj hBJ.out.2;clear hBJ;by_cases hlt:k<m
  ·obtain ⟨b,o,rfl,hb,hcell⟩:=HL.out.2 (by omega);obtain ⟨A',c',⟨y0,y1,y2⟩,hp⟩:=hcell k hlt;have HCELL:=Hj hcell;have HFIN:=Hj (fun (z:Int) (e:chk1 lv k=z) (hz:z≠0)=>HR.out.trans ((fst0_at HJ.out (by rw [e];exact hz) hlt).trans e));have HC1:Hid (chk1 lv k=if inR (prc lv k) (prt lv k)=false then 1 else if (prt lv k).length≠(prt lv 0).length∨(lv[k]?.getD Lv0).2.1≠sumI (prt lv k)∨sumI (prt lv k)=0∨mvB lv k=false then 3 else 0):=Hj rfl;obtain ⟨p,hpp⟩:∃ x,prc lv k=x:=⟨_,rfl⟩;obtain ⟨xs,hxx⟩:∃ x,prt lv k=x:=⟨_,rfl⟩;obtain ⟨q,hqq⟩:∃ x,(lv[k]?.getD Lv0).2.1=x:=⟨_,rfl⟩;rw [hpp,hxx,hqq] at HC1;unfold prc at hpp;unfold prt at hxx;rw [hpp] at y0;rw [hqq] at y1;rw [hxx] at y2 hp;have HP:=Hj hpp;clear hpp hxx hqq;replace y0:=(hB.out.cell (p:=⟨b,o+k*3,none⟩) hb).trans y0;replace y1:=(hB.out.cell (p:=⟨b,o+k*3+1,none⟩) hb).trans y1;replace y2:=(hB.out.cell (p:=⟨b,o+k*3+2,none⟩) hb).trans y2;have hki1:(0:Int)≤(k:Int):=by omega
   have hki2:(k:Int)<(m:Int):=by omega
   generalize hxl:xs.length=n at *;have HXL:=Hj hxl;clear hxl;have HIR:=Hj (rown_lv p q A' n c' xs wr (hp.below hB.out));have HPT:=Hj hp;clear hcell hp;by_cases hir:inR p xs=false
   ·rw [show ownC p xs=1 by rw [ownC,hir];rfl] at HIR;have HF:=Hj (HFIN.out 1 (HC1.out.trans (if_pos hir)) (by decide));clear HC1 HFIN
    go_wp2_with fail
    refine HIR.out.mono ?_;rintro e w1 ⟨rfl,hb2⟩;have HB1:=Hj (hB.out.trans (hb2.mono hB.out.size));clear hb2 HIR y0 y1 y2;go_wp2;go_ret;exact ⟨by rw [HF.out];rfl,HB1.out⟩
   rw [Bool.not_eq_false] at hir;rw [show ownC p xs=0 by rw [ownC,hir];rfl] at HIR;have V2:=Hj (inR_bd hir);have HC2:=Hj (HC1.out.trans (if_neg (by rw [hir];decide)));clear HC1 hir
   go_wp2_with fail
   refine HIR.out.mono ?_;rintro e w1 ⟨rfl,hb2⟩;have HB1:=Hj (hB.out.trans (hb2.mono hB.out.size));have hbr:b<wr.heap.size:=Nat.lt_of_lt_of_le hb hB.out.size;replace y0:=(hb2.cell (p:=⟨b,o+k*3,none⟩) hbr).trans y0;replace y1:=(hb2.cell (p:=⟨b,o+k*3+1,none⟩) hbr).trans y1;replace y2:=(hb2.cell (p:=⟨b,o+k*3+2,none⟩) hbr).trans y2;clear hb2 HIR;have hn16:n≤16:=by have:=V2.out.1;have:=HXL.out;omega
   go_wp2_with fail
   go_loopw [5,6] (fun t5 t wx=>∃ i:Nat,i≤n∧t=.int .i64 i∧t5=.int .i64 (sumI (xs.take i))∧Hid (wx=w1)) (fun _ t _=>n-(intOf t).toNat)
   case atStart=>exact ⟨0,Nat.zero_le _,rfl,rfl,by first|exact Hj rfl|exact Hj trivial⟩
   case round =>
    obtain ⟨i,hi,rfl,rfl,hW⟩:=hrel;obtain rfl:=hW.out;by_cases hin:i<n
    ·obtain ⟨b5,o5,rfl,hb5,hc5⟩:=HPT.out.2 (by omega);have hx:=(HB1.out.cell (p:=⟨b5,o5+i,none⟩) hb5).trans (hc5 i hin);have hs:=take_int (xs:=xs) (k:=i) (by rw [HXL.out];exact hin);have hbd1:=sumI_bd (xs.take i) fun y hy=>V2.out.2 y (List.mem_of_mem_take hy);have hbd2:=V2.out.2 _ (getD_mem (d:=0) (show i<xs.length by rw [HXL.out];exact hin));have hl2:=List.length_take_le i xs;have hs2:sumI (xs.take (i+1))=sumI (xs.take i)+xs[i]?.getD 0:=by rw [hs,sumI_snoc]
     generalize xs[i]?.getD 0=x at *;generalize hsi:sumI (xs.take i)=s at *;have xw:IntKind.i64.wrap (s+x)=s+x:=IntWalk.i64_in _ (by omega);have i1:(0:Int)≤(i:Int):=by omega
     have i2:(i:Int)<(n:Int):=by omega
     have HS2:=Hj hs2;clear hs hs2 hbd1 hbd2 hl2 hc5 hsi;go_wp2;go_roundw
     case rel=>exact ⟨i+1,by omega,by go_num,by rw [HS2.out],by first|exact Hj rfl|exact Hj trivial⟩
     case measure=>simp [intOf];omega
    ·obtain rfl:i=n:=by omega
     rw [List.take_of_length_le (by rw [HXL.out];exact Nat.le_refl _)];generalize sumI xs=S at *;have HBAD:=Hj (fun hh=>HFIN.out 3 (HC2.out.trans (if_pos hh)) (by decide));have HGOOD:=Hj (fun hh=>HC2.out.trans (if_neg hh));clear HC2 HFIN V2 HXL HPT;obtain ⟨A0,c0,⟨z0,-,z2⟩,-⟩:=HCELL.out 0 (by omega);rw [Nat.zero_mul,Nat.add_zero] at z0 z2;replace z0:=(HB1.out.cell (p:=⟨b,o,none⟩) hb).trans z0;replace z2:=(HB1.out.cell (p:=⟨b,o+2,none⟩) hb).trans z2;generalize (prt lv 0).length=n0 at *;have m0:(0:Int)<(m:Int):=by omega
     by_cases c1:i≠n0
     ·have HF:=Hj (HBAD.out (.inl c1));have n1:((i:Int) != (n0:Int))=true:=by simp;omega
      clear c1;clear HBAD HGOOD
      go_wp2_with fail
      go_quiet (fail)
      go_wp2;go_ret;exact ⟨by rw [HF.out];rfl,by first|exact below_drewN HB1.out _|exact below_drewN (below_drewN HB1.out _) _⟩
     have n1:((i:Int) != (n0:Int))=false:=by simp;omega
     by_cases c2:q≠S
     ·have HF:=Hj (HBAD.out (.inr (.inl c2)));have n2:(S != q)=true:=by simp;omega
      clear c2;clear HBAD HGOOD
      go_wp2_with fail
      go_quiet (fail)
      go_wp2;go_ret;exact ⟨by rw [HF.out];rfl,by first|exact below_drewN HB1.out _|exact below_drewN (below_drewN HB1.out _) _⟩
     have n2:(S != q)=false:=by simp;omega
     by_cases c3:S=0
     ·have HF:=Hj (HBAD.out (.inr (.inr (.inl c3))));have n3:(S == 0)=true:=by simpa using c3
      clear c3;clear HBAD HGOOD
      go_wp2_with fail
      go_quiet (fail)
      go_wp2;go_ret;exact ⟨by rw [HF.out];rfl,by first|exact below_drewN HB1.out _|exact below_drewN (below_drewN HB1.out _) _⟩
     have n3:(S == 0)=false:=by simpa using c3
     go_wp2_with fail
     go_quiet (fail)
     go_wp2_with fail
     by_cases k0:k=0
     ·subst k0;have HB:Hid (mvB lv 0=true):=Hj (by simp [mvB]);have HF:=Hj (HGOOD.out (by intro hh;rcases hh with hh|hh|hh|hh;exact c1 hh;exact c2 hh;exact c3 hh;rw [HB.out] at hh;cases hh));clear c1 c2 c3 y0 y1 y2 z0 z2;clear HBAD HGOOD
      go_quiet (fail)
      go_wp2;go_roundw
      case rel=>exact ⟨_,by omega,by go_num,Hj ⟨below_drewN HB1.out _,fst0_next HJ.out HF.out⟩⟩
      case measure=>simp [intOf];omega
     obtain ⟨j,rfl⟩:∃ j,k=j+1:=⟨k-1,by omega⟩;obtain ⟨_,_,⟨v0,-,-⟩,-⟩:=HCELL.out j (by omega);obtain ⟨_,_,⟨t0,-,-⟩,-⟩:=HCELL.out 1 (by omega);rw [Nat.one_mul] at t0;replace v0:=(HB1.out.cell (p:=⟨b,o+j*3,none⟩) hb).trans v0;replace t0:=(HB1.out.cell (p:=⟨b,o+3,none⟩) hb).trans t0;have HM:Hid (mvB lv (j+1)=(!(p == prc lv j) && (decide (prc lv j<p) == decide (prc lv 0<prc lv 1)))):=Hj (by rw [← HP.out];simp [mvB]);have HP1:Hid (j=0→prc lv j=prc lv 0∧p=prc lv 1):=Hj (by intro e;subst e;exact ⟨rfl,HP.out.symm⟩);unfold prc at HM HP1;generalize (lv[j]?.getD Lv0).1=p2 at *;generalize (lv[1]?.getD Lv0).1=p1 at *;generalize (lv[0]?.getD Lv0).1=p0 at *;have g0:decide ((0:Int)<((j+1:Nat):Int))=true:=by simp<;>omega
     have g0':decide ((0:Int)<(j:Int)+1)=true:=by simp<;>omega
     have xw2:IntKind.i64.wrap ((j:Int)+1-1)=(j:Int):=by rw [show (j:Int)+1-1=(j:Int) by omega];exact IntWalk.i64_in _ (by omega)
     have xw3:IntKind.i64.wrap (j:Int)=(j:Int):=IntWalk.i64_in _ (by omega);have r1:(0:Int)≤(j:Int):=by omega
     have r2:(j:Int)<(m:Int):=by omega
     have r3:(j:Int)+1<(m:Int):=by omega
     have r4:(0:Int)≤(j:Int)+1:=by omega
     have r5:(1:Int)<(m:Int):=by omega
     by_cases q1:p=p2
     ·have HB:Hid (mvB lv (j+1)=false):=Hj (by rw [HM.out];simp [q1]);have HF:=Hj (HBAD.out (.inr (.inr (.inr HB.out))));have e1:(p == p2)=true:=by simpa using q1
      clear q1 c1 c2 c3;clear HBAD HGOOD
      go_quiet (fail)
      go_wp2;go_ret;exact ⟨by rw [HF.out];rfl,by first|exact below_drewN HB1.out _|exact below_drewN (below_drewN HB1.out _) _⟩
     have e1:(p == p2)=false:=by simpa using q1
     by_cases k1:j=0
     ·have HB:Hid (mvB lv (j+1)=true):=Hj (by rw [HM.out,(HP1.out k1).1,(HP1.out k1).2];have:=(HP1.out k1);simp;intro e;apply q1;omega);have HF:=Hj (HGOOD.out (by intro hh;rcases hh with hh|hh|hh|hh;exact c1 hh;exact c2 hh;exact c3 hh;rw [HB.out] at hh;cases hh));have g1:decide ((1:Int)<(j:Int)+1)=false:=by simp;omega
      clear q1 c1 c2 c3 k1;clear HBAD HGOOD
      go_quiet (fail)
      go_wp2;go_roundw
      case rel=>exact ⟨_,by omega,by go_num,Hj ⟨below_drewN HB1.out _,fst0_next HJ.out HF.out⟩⟩
      case measure=>simp [intOf];omega
     have g1:decide ((1:Int)<(j:Int)+1)=true:=by simp;omega
     obtain hx|hx:decide (p2<p)=true∨decide (p2<p)=false:=by cases decide (p2<p)<;>simp
     ·obtain hy|hy:decide (p0<p1)=true∨decide (p0<p1)=false:=by cases decide (p0<p1)<;>simp
      ·have HB:Hid (mvB lv (j+1)=true):=Hj (by rw [HM.out,e1,hx,hy];rfl);have HF:=Hj (HGOOD.out (by intro hh;rcases hh with hh|hh|hh|hh;exact c1 hh;exact c2 hh;exact c3 hh;rw [HB.out] at hh;cases hh));clear q1 c1 c2 c3 k1 HBAD HGOOD
       go_quiet (fail)
       go_wp2;go_roundw
       case rel=>exact ⟨_,by omega,by go_num,Hj ⟨below_drewN HB1.out _,fst0_next HJ.out HF.out⟩⟩
       case measure=>simp [intOf];omega
      ·have HB:Hid (mvB lv (j+1)=false):=Hj (by rw [HM.out,e1,hx,hy];rfl);have HF:=Hj (HBAD.out (.inr (.inr (.inr HB.out))));clear q1 c1 c2 c3 k1 HBAD HGOOD
       go_quiet (fail)
       go_wp2;go_ret;exact ⟨by rw [HF.out];rfl,by first|exact below_drewN HB1.out _|exact below_drewN (below_drewN HB1.out _) _⟩
     ·obtain hy|hy:decide (p0<p1)=true∨decide (p0<p1)=false:=by cases decide (p0<p1)<;>simp
      ·have HB:Hid (mvB lv (j+1)=false):=Hj (by rw [HM.out,e1,hx,hy];rfl);have HF:=Hj (HBAD.out (.inr (.inr (.inr HB.out))));clear q1 c1 c2 c3 k1 HBAD HGOOD
       go_quiet (fail)
       go_wp2;go_ret;exact ⟨by rw [HF.out];rfl,by first|exact below_drewN HB1.out _|exact below_drewN (below_drewN HB1.out _) _⟩
      ·have HB:Hid (mvB lv (j+1)=true):=Hj (by rw [HM.out,e1,hx,hy];rfl);have HF:=Hj (HGOOD.out (by intro hh;rcases hh with hh|hh|hh|hh;exact c1 hh;exact c2 hh;exact c3 hh;rw [HB.out] at hh;cases hh));clear q1 c1 c2 c3 k1 HBAD HGOOD
       go_quiet (fail)
       go_wp2;go_roundw
       case rel=>exact ⟨_,by omega,by go_num,Hj ⟨below_drewN HB1.out _,fst0_next HJ.out HF.out⟩⟩
       case measure=>simp [intOf];omega
  ·obtain rfl:k=m:=by omega
   have HF:=Hj (HR.out.trans HJ.out);go_wp2;go_ret;exact ⟨by rw [HF.out];rfl,hB.out⟩
theorem rtotal_any (A:Option Addr) (m c:Nat) (lv:List St.Lv) (w:World) (h:LsAt w A m lv) :
  Calls Tryz.prog 30 #[.slice A m c] w fun e w'=>e=.returned (.int .i64 (totL lv))∧Below w.heap.size w w':=by
 have hl:=h.1;have HCK:=Hj (fun W (hW:Below w.heap.size w W)=>rchkl_any A m c lv W (h.below hW));by_cases hc:chkL lv=0
 ·have HT:Hid (totL lv=totI lv):=Hj (by rw [totL,if_pos hc]);have hm:m≤48:=by have:=(chkL_ok hc).1;omega
  have HL:=Hj h;have HLN:=Hj hl;have HQ:=Hj (chkL_qty hc);rw [hc] at HCK;clear h hl hc;go_enter Tryz.func30,Tryz.ntmps30
  go_wp2_with fail
  go_loopw [3,4] (fun t3 t wr=>∃ k:Nat,k≤m∧t=.int .i64 k∧t3=.int .i64 (totI (lv.take k))∧Hid (Below w.heap.size w wr)) (fun _ t _=>m-(intOf t).toNat)
  case atStart=>exact ⟨0,Nat.zero_le _,rfl,rfl,Hj (Below.refl _ _)⟩
  case round =>
   obtain ⟨k,hk,rfl,rfl,hB⟩:=hrel;by_cases hlt:k<m
   ·obtain ⟨b,o,rfl,hb,hcell⟩:=HL.out.2 (by omega);obtain ⟨A',c',⟨y0,y1,y2⟩,-⟩:=hcell k hlt;have hsn:=tot_snoc (lv:=lv) (k:=k) (by rw [HLN.out];exact hlt);have hq:=HQ.out _ (getD_mem (d:=Lv0) (show k<lv.length by rw [HLN.out];exact hlt));have hbd:=tot_bd (lv.take k) fun x hx=>HQ.out x (List.mem_of_mem_take hx);have hl2:=List.length_take_le k lv;generalize (lv[k]?.getD Lv0).1=p at *;generalize (lv[k]?.getD Lv0).2.1=q at *;generalize hts:totI (lv.take k)=s at *;replace y1:=(hB.out.cell (p:=⟨b,o+k*3+1,none⟩) hb).trans y1;have hbr:=Nat.lt_of_lt_of_le hb hB.out.size;have xw:IntKind.i64.wrap (s+q)=s+q:=IntWalk.i64_in _ (by omega);have hki1:(0:Int)≤(k:Int):=by omega
    have hki2:(k:Int)<(m:Int):=by omega
    have HSN:=Hj hsn;have HC:=Hj (HCK.out wr hB.out);clear hcell hsn hq hbd hl2 hts y0 y2
    go_wp2_with fail
    refine HC.out.mono ?_;rintro e w1 ⟨rfl,hb1⟩;have HB1:=Hj (hB.out.trans (hb1.mono hB.out.size));replace y1:=(Below.cell hb1 (p:=⟨b,o+k*3+1,none⟩) hbr).trans y1;clear hb1 HC hB;go_wp2;go_roundw
    case rel=>exact ⟨k+1,by omega,by go_num,by rw [HSN.out],HB1⟩
    case measure=>simp [intOf];omega
   ·obtain rfl:k=m:=by omega
    rw [List.take_of_length_le (by rw [HLN.out];exact Nat.le_refl _)];go_wp2;go_ret;exact ⟨by rw [HT.out];rfl,hB.out⟩
 ·have HT:Hid (totL lv=0):=Hj (by rw [totL,if_neg hc]);have hm0:m≠0:=fun e=>hc (by
   have:lv=[]:=List.eq_nil_of_length_eq_zero (by omega);rw [this];rfl)
  have hz:(chkL lv == 0)=false:=by simpa using hc
  generalize chkL lv=z at *;have hki2:(0:Int)<(m:Int):=by omega
  have HC:=Hj (HCK.out w (Below.refl _ _));clear h hl hc HCK;go_enter Tryz.func30,Tryz.ntmps30
  go_wp2_with fail
  go_loopw [3,4] (fun t3 t wr=>t=.int .i64 0∧t3=.int .i64 0∧wr=w) (fun _ t _=>0)
  case atStart=>exact ⟨rfl,rfl,rfl⟩
  case round =>
   obtain ⟨rfl,rfl,rfl⟩:=hrel
   go_wp2_with fail
   refine HC.out.mono ?_;rintro e w0 ⟨rfl,hb0⟩;have HB0:=Hj hb0;clear hb0 HC;go_wp2;go_ret;exact ⟨by rw [HT.out];rfl,HB0.out⟩
def NoInt (cs:Array Value):Prop:=∀ (i:Nat) (k:IntKind) (z:Int),cs[i]?≠some (.int k z)
theorem NoInt.four {a b:Bool} {A A':Option Addr} {n c n' c':Nat}:NoInt #[.bool a,.slice A n c,.bool b,.slice A' n' c']:=by
 intro i k z
 match i with
 | 0=>simp
 | 1=>simp
 | 2=>simp
 | 3=>simp
 | i+4=>simp
theorem NoInt.set {cs:Array Value} (h:NoInt cs) (i:Nat) (v:Value) (hv:∀ k z,v≠.int k z):NoInt (cs.setIfInBounds i v):=by
 intro j k z;rw [Array.getElem?_setIfInBounds];split
 ·split
  ·intro e;injection e with e;exact hv _ _ e
  ·simp
 ·exact h j k z
theorem Wat.setQ {w:World} {A:Option Addr} {n:Nat} {l:List Nat} {g:Nat} {t:TypeId} {cs:Array Value} (h:Wat w A n l) (hb:Blk w g t cs) (hn:NoInt cs) (i:Nat) (u:Value):Wat (w.setCell ⟨g,i,none⟩ u) A n l:=by
 refine ⟨h.1,h.2.1,fun hn0=>?_⟩;obtain ⟨b,o,rfl,hlt,hc⟩:=h.2.2 hn0;have hne:b≠g:=by
  intro e;subst e;have h0:=hc 0 (by omega);rw [hb.cell] at h0;exact hn _ _ _ h0
 refine ⟨b,o,rfl,by simpa [World.setCell] using hlt,fun j hj=>?_⟩;rw [World.cell?_of_block (w:=w) (Below.heap_setCell w _ u b (by simpa using hne))];exact hc j hj
def qst (w:World) (g o:Nat) (a b:Bool) (A A':Option Addr) (k c k' c':Nat):World :=
 (((w.setCell ⟨g,o,none⟩ (.bool a)).setCell ⟨g,o+1,none⟩ (.slice A k c)).setCell ⟨g,o+2,none⟩ (.bool b)).setCell ⟨g,o+3,none⟩ (.slice A' k' c')
def qput (cs:Array Value) (o:Nat) (a b:Bool) (A A':Option Addr) (k c k' c':Nat):Array Value :=
 (((cs.setIfInBounds o (.bool a)).setIfInBounds (o+1) (.slice A k c)).setIfInBounds (o+2) (.bool b)).setIfInBounds (o+3) (.slice A' k' c')
section
variable {w:World} {g o:Nat} {a b:Bool} {A A':Option Addr} {k c k' c':Nat} {cs:Array Value} {t:TypeId}
theorem NoInt.put4 (h:NoInt cs):NoInt (qput cs o a b A A' k c k' c') :=
 (((h.set o _ (by simp)).set (o+1) _ (by simp)).set (o+2) _ (by simp)).set (o+3) _ (by simp)
theorem Blk.put4 (h:Blk w g t cs):Blk (qst w g o a b A A' k c k' c') g t (qput cs o a b A A' k c k' c') :=
 (((h.set o _).set (o+1) _).set (o+2) _).set (o+3) _
theorem Blk.far4 {g':Nat} {t':TypeId} {cs':Array Value} (h:Blk w g' t' cs') (hne:g'≠g):Blk (qst w g o a b A A' k c k' c') g' t' cs' :=
 (((h.far (by simpa using hne) _).far (by simpa using hne) _).far (by simpa using hne) _).far (by simpa using hne) _
theorem Wat.put4 {B:Option Addr} {n:Nat} {l:List Nat} (hW:Wat w B n l) (h:Blk w g t cs) (hn:NoInt cs):Wat (qst w g o a b A A' k c k' c') B n l:=by
 have b1:=h.set o (.bool a);have n1:=hn.set o (.bool a) (by simp);have b2:=b1.set (o+1) (.slice A k c);have n2:=n1.set (o+1) (.slice A k c) (by simp);have b3:=b2.set (o+2) (.bool b);have n3:=n2.set (o+2) (.bool b) (by simp);exact (((hW.setQ h hn _ _).setQ b1 n1 _ _).setQ b2 n2 _ _).setQ b3 n3 _ _
theorem below_qst {B:Nat} {w0:World} (h:Below B w0 w) (hg:B≤g):Below B w0 (qst w g o a b A A' k c k' c') :=
 (((h.setCell (p:=⟨g,o,none⟩) hg _).setCell (p:=⟨g,o+1,none⟩) hg _).setCell (p:=⟨g,o+2,none⟩) hg _).setCell (p:=⟨g,o+3,none⟩) hg _
theorem qput_size:(qput cs o a b A A' k c k' c').size=cs.size:=by simp [qput]
theorem qput_same (h:o+3<cs.size):(qput cs o a b A A' k c k' c')[o]?=some (.bool a)∧(qput cs o a b A A' k c k' c')[o+1]?=some (.slice A k c)∧(qput cs o a b A A' k c k' c')[o+2]?=some (.bool b)∧(qput cs o a b A A' k c k' c')[o+3]?=some (.slice A' k' c'):=by
 unfold qput;refine ⟨?_,?_,?_,?_⟩<;>simp [Array.getElem?_setIfInBounds]<;>omega
theorem qput_other {j:Nat} (h:j<o∨o+3<j):(qput cs o a b A A' k c k' c')[j]?=cs[j]?:=by
 unfold qput;rw [Array.getElem?_setIfInBounds_ne (by omega),Array.getElem?_setIfInBounds_ne (by omega),Array.getElem?_setIfInBounds_ne (by omega),Array.getElem?_setIfInBounds_ne (by omega)]
end
def QRow (w:World) (g n:Nat) (ps:List Rat):Prop :=
 ps.length=n∧∃ cs,Blk w g 42 cs∧NoInt cs∧cs.size=n*4∧∀ j,j<n→∃ A k c A' k' c',
  cs[j*4]?=some (.bool (decide ((ps[j]?.getD 0).num<0)))∧cs[j*4+1]?=some (.slice A k c)∧cs[j*4+2]?=some (.bool false)∧cs[j*4+3]?=some (.slice A' k' c') ∧
  k≤c∧k'≤c'∧Wat w A k (digs (ps[j]?.getD 0).num.natAbs)∧Wat w A' k' (denW (ps[j]?.getD 0).den)
theorem QRow.below {w w':World} {g n:Nat} {ps:List Rat} (h:QRow w g n ps) (hb:Below w.heap.size w w'):QRow w' g n ps:=by
 obtain ⟨h1,cs,h2,h3,h4,h5⟩:=h;refine ⟨h1,cs,h2.below hb h2.lt,h3,h4,fun j hj=>?_⟩;obtain ⟨A,k,c,A',k',c',e1,e2,e3,e4,e5,e6,e7,e8⟩:=h5 j hj;exact ⟨A,k,c,A',k',c',e1,e2,e3,e4,e5,e6,e7.below hb,e8.below hb⟩
theorem QRow.put {w:World} {g n i:Nat} {ps:List Rat} {q:Rat} {A A':Option Addr} {k c k' c':Nat} (h:QRow w g n ps) (hi:i<n) (hk:k≤c) (hk':k'≤c') (hW:Wat w A k (digs q.num.natAbs)) (hW':Wat w A' k' (denW q.den)) :
  QRow (qst w g (i*4) (decide (q.num<0)) false A A' k c k' c') g n (ps.set i q):=by
 obtain ⟨h1,cs,h2,h3,h4,h5⟩:=h;refine ⟨by simpa using h1,_,h2.put4,h3.put4,by rw [qput_size,h4],fun j hj=>?_⟩;by_cases hji:j=i
 ·subst hji;have e:((ps.set j q)[j]?.getD 0)=q:=by simp [h1,hj]
  rw [e];obtain ⟨p1,p2,p3,p4⟩:=qput_same (cs:=cs) (o:=j*4) (a:=decide (q.num<0)) (b:=false) (A:=A) (A':=A') (k:=k) (c:=c) (k':=k') (c':=c') (by omega);exact ⟨A,k,c,A',k',c',p1,p2,p3,p4,hk,hk',hW.put4 h2 h3,hW'.put4 h2 h3⟩
 ·have e:((ps.set i q)[j]?.getD 0)=(ps[j]?.getD 0):=by rw [List.getElem?_set_ne (Ne.symm hji)]
  rw [e];obtain ⟨B,m,d,B',m',d',e1,e2,e3,e4,e5,e6,e7,e8⟩:=h5 j hj;refine ⟨B,m,d,B',m',d',?_,?_,?_,?_,e5,e6,e7.put4 h2 h3,e8.put4 h2 h3⟩
  ·rw [qput_other (by omega)];exact e1
  ·rw [qput_other (by omega)];exact e2
  ·rw [qput_other (by omega)];exact e3
  ·rw [qput_other (by omega)];exact e4
theorem QRow.far4 {w:World} {g g' n o:Nat} {ps:List Rat} {a b:Bool} {A A':Option Addr} {k c k' c':Nat} {t:TypeId} {cs:Array Value} (h:QRow w g n ps) (hne:g≠g') (hb:Blk w g' t cs) (hn:NoInt cs) :
  QRow (qst w g' o a b A A' k c k' c') g n ps:=by
 obtain ⟨h1,cs',h2,h3,h4,h5⟩:=h;refine ⟨h1,cs',h2.far4 hne,h3,h4,fun j hj=>?_⟩;obtain ⟨B,m,d,B',m',d',e1,e2,e3,e4,e5,e6,e7,e8⟩:=h5 j hj;exact ⟨B,m,d,B',m',d',e1,e2,e3,e4,e5,e6,e7.put4 hb hn,e8.put4 hb hn⟩
theorem QAt.put4 {w:World} {Nn Nd:Nat} {neg neg':Bool} {B B':Option Addr} {n d n' d':Nat} {q:Rat} {g o:Nat} {a b:Bool} {A A':Option Addr} {k c k' c':Nat} {t:TypeId} {cs:Array Value} (h:QAt Nn Nd w neg B n d neg' B' n' d' q) (hb:Blk w g t cs) (hn:NoInt cs) :
  QAt Nn Nd (qst w g o a b A A' k c k' c') neg B n d neg' B' n' d' q:=by
 obtain ⟨na,da,⟨l,l',h1,h2,h3⟩,h4⟩:=h;exact ⟨na,da,⟨l,l',h1.put4 hb hn,h2.put4 hb hn,h3⟩,h4⟩
def lessQ (r:Rat) (a:Int):Rat:=if (a:Rat)<r then (a:Rat) else r
def restAt (l:List (Int×Int)) (q:Rat):Nat→Rat
 | 0=>q
 | k+1=>restAt l q k-lessQ (restAt l q k) (l[k]?.getD (0,0)).1
def partAt (l:List (Int×Int)) (q:Rat) (k:Nat):Rat:=lessQ (restAt l q k) (l[k]?.getD (0,0)).1
theorem sub_whole (r:Rat) (a:Int):(r-(a:Rat)).num=r.num-a*r.den∧(r-(a:Rat)).den=r.den:=by
 have hd:=r.den_nz;have e0:r-(a:Rat)=mkRat (r.num-a*r.den) r.den:=by
  have e1:r=mkRat r.num r.den:=(Rat.mkRat_self r).symm;have e2:(a:Rat)=mkRat a 1:=by rw [Rat.mkRat_one]
  have:=rat_sub r.num a (r.den:Int) 1 (by omega) (by omega);simp only [Int.natAbs_natCast,Int.mul_one] at this;rw [show (1:Int).natAbs=1 from rfl,← e1,← e2] at this;exact this
 have hg:Nat.gcd (r.num-a*r.den).natAbs r.den=1:=by
  have h1:Nat.gcd r.num.natAbs r.den=1:=r.reduced;have h2:Int.gcd (r.num-a*r.den) r.den=Int.gcd r.num r.den:=by
   rw [Int.sub_eq_add_neg,← Int.neg_mul,Int.mul_comm (-a),Int.gcd_add_mul_left_left]
  exact h2.trans h1
 rw [e0,mk_num _ _ hd,mk_den _ _ hd,hg];simp
theorem rest_bd {r:Rat} {a:Int} {Nn Nd:Nat} (h0:0≤r) (ha:0≤a) (hn:r.num.natAbs<Nn) (hd:r.den<Nd) :
  0≤r-lessQ r a∧(r-lessQ r a).num.natAbs<Nn∧(r-lessQ r a).den<Nd:=by
 have hdp:=r.den_pos;unfold lessQ;split
 ·rename_i hlt
  obtain ⟨e1,e2⟩:=sub_whole r a;have h1:0≤r-(a:Rat):=by grind
  have h2:0≤(r-(a:Rat)).num:=Rat.num_nonneg.2 h1;have h3:0≤r.num:=Rat.num_nonneg.2 h0;refine ⟨h1,?_,by rw [e2];exact hd⟩;have h4:0≤a*r.den:=Int.mul_nonneg ha (by omega);rw [e1] at h2 ⊢;omega
 ·have e:r-r=0:=by grind
  rw [e];refine ⟨Rat.le_refl,?_,?_⟩
  ·show 0<Nn;omega
  ·show 1<Nd;omega
theorem QAt.bd {Nn Nd:Nat} {w:World} {neg neg':Bool} {A A':Option Addr} {n c n' c':Nat} {q:Rat} (h:QAt Nn Nd w neg A n c neg' A' n' c' q):q.num.natAbs<Nn∧q.den<Nd:=by
 obtain ⟨na,da,_,h1,h2,rfl⟩:=h;have hp:=qden_pos da;rw [mk_num _ _ (by omega),mk_den _ _ (by omega)];refine ⟨?_,Nat.lt_of_le_of_lt (Nat.div_le_self _ _) h2⟩;rw [Int.natAbs_tdiv];exact Nat.lt_of_le_of_lt (Nat.div_le_self _ _) h1
theorem info_Q:(Tryz.prog.info? 42).map (fun i=>(i.zero,i.size,i.bytes))=some (some (.agg #[.bool false,.slice none 0 0,.bool false,.slice none 0 0]),4,64):=by kernel_rfl
def qzero:Array Value:=#[.bool false,.slice none 0 0,.bool false,.slice none 0 0]
theorem run_make_Q (k:Nat) (hk:k≤1000000000) (w:World) :
  (Instr.makeSlice 46 (.int .i64 (k:Int)) (.int .i64 (k:Int))).run Tryz.prog w=.ok (.slice (some ⟨w.heap.size,0,none⟩) k k) (w.alloc (.cells (madeCells qzero (k*4)) 42)):=by
 obtain ⟨i0,hi,hz0,hz1,hz2⟩:=info_parts info_Q;have h:=run_make (P:=Tryz.prog) w 46 42 i0 _ Tryz.underlying46 hi hz0 .i64 .i64 k k (by omega) (Int.le_refl _) (by rw [hz2];omega) (by omega);rw [h,hz1];simp only [Int.toNat_natCast,Value.cells]
 rfl
theorem made_get (n i:Nat) (h:i<n):(madeCells qzero n)[i]?=some (qzero[i % 4]!):=by
 simp [madeCells,h,qzero]
theorem made_noInt (n:Nat):NoInt (madeCells qzero n):=by
 intro i k z;by_cases h:i<n
 ·rw [made_get n i h];have h4:i % 4<4:=Nat.mod_lt _ (by omega);generalize i % 4=m at *
  match m,h4 with
  | 0,_=>simp [qzero]
  | 1,_=>simp [qzero]
  | 2,_=>simp [qzero]
  | 3,_=>simp [qzero]
 ·rw [Array.getElem?_eq_none (by rw [size_madeCells];omega)];simp
theorem QRow.start (w:World) (n:Nat):QRow (w.alloc (.cells (madeCells qzero (n*4)) 42)) w.heap.size n (List.replicate n 0):=by
 refine ⟨by simp,_,Blk.new _ _ _,made_noInt _,size_madeCells _ _,fun j hj=>?_⟩;have e:((List.replicate n (0:Rat))[j]?.getD 0)=0:=by simp [hj]
 rw [e];refine ⟨none,0,0,none,0,0,?_,?_,?_,?_,Nat.le_refl _,Nat.le_refl _,?_,?_⟩
 ·rw [made_get _ _ (by omega),show j*4 % 4=0 by omega];rfl
 ·rw [made_get _ _ (by omega),show (j*4+1) % 4=1 by omega];rfl
 ·rw [made_get _ _ (by omega),show (j*4+2) % 4=2 by omega];rfl
 ·rw [made_get _ _ (by omega),show (j*4+3) % 4=3 by omega];rfl
 ·show Wat _ none 0 (digs 0);rw [digs_zero];exact Wat.nil
 ·show Wat _ none 0 [];exact Wat.nil
theorem qless_any (M Nn Nd:Nat) (HO:WOK M) (hnm:Nn≤M) (hdm:Nd≤M) {w:World} {an an':Bool} {aA aA' bA bA':Option Addr} {ak ac ak' ac' bk bc bk' bc':Nat} {r:Rat} {a:Int}
  (ha:QAt Nn Nd w an aA ak ac an' aA' ak' ac' r) (hk:bk≤bc) (hk':bk'≤bc') (hW:Wat w bA bk (digs ((a:Int):Rat).num.natAbs)) (hW':Wat w bA' bk' (denW ((a:Int):Rat).den)) (h1:a.natAbs<Nn) (h2:1<Nd) (h3:Nn≤M) :
  Calls Tryz.prog 85 #[.agg #[.bool an,.slice aA ak ac,.bool an',.slice aA' ak' ac'],.agg #[.bool (decide (((a:Int):Rat).num<0)),.slice bA bk bc,.bool false,.slice bA' bk' bc']] w (RetQ w (lessQ r a)):=by
 have hl:bk≤10000000000:=by
  rw [← hW.1,show ((a:Int):Rat).num=a from rfl];exact HO.len _ (by omega)
 have hl':bk'≤10000000000:=by
  rw [← hW'.1,show ((a:Int):Rat).den=1 from rfl];simp [denW]
 exact qmin_any M Nn Nd HO hnm hdm an an' _ false aA aA' bA bA' ak ac ak' ac' bk bc bk' bc' r (a:Rat) w ha (qat_canon hk hk' hW hW' hl hl' h1 h2)
def RGB (g:Nat) (t:TypeId) (W w':World):Prop:=W.grownBy w' (some g)∧∃ cs,Blk w' g t cs
section
variable {g:Nat} {t:TypeId} {W w w':World}
theorem RGB.start {cs:Array Value} (h:Blk W g t cs):RGB g t W W:=⟨⟨rfl,rfl,rfl,Nat.le_refl _,fun _ _ _=>rfl⟩,cs,h⟩
theorem RGB.drew (h:RGB g t W w):RGB g t W w.drew:=⟨⟨h.1.os,h.1.tape,h.1.output,h.1.size,h.1.block⟩,h.2⟩
theorem RGB.call (h:RGB g t W w) (hb:Below w.heap.size w w'):RGB g t W w':=by
 obtain ⟨h1,cs,h2⟩:=h;exact ⟨⟨hb.os.trans h1.os,hb.tape.trans h1.tape,hb.output.trans h1.output,Nat.le_trans h1.size hb.size,fun k hk hne=>(hb.block k (Nat.lt_of_lt_of_le hk h1.size)).trans (h1.block k hk hne)⟩,cs,h2.below hb h2.lt⟩
theorem RGB.set (h:RGB g t W w) (o1 o2 o3 o4:Nat) (a b c d:Value):RGB g t W ((((w.setCell ⟨g,o1,none⟩ a).setCell ⟨g,o2,none⟩ b).setCell ⟨g,o3,none⟩ c).setCell ⟨g,o4,none⟩ d):=by
 obtain ⟨h1,cs,h2⟩:=h;refine ⟨⟨h1.os,h1.tape,h1.output,by simpa [World.setCell] using h1.size,fun k hk hne=>?_⟩,_,(((h2.set o1 a).set o2 b).set o3 c).set o4 d⟩;have hkg:k≠g:=fun e=>hne (by rw [e]);rw [Below.heap_setCell _ _ _ _ (by simpa using hkg),Below.heap_setCell _ _ _ _ (by simpa using hkg),Below.heap_setCell _ _ _ _ (by simpa using hkg),Below.heap_setCell _ _ _ _ (by simpa using hkg)];exact h1.block k hk hne
theorem RGB.blk {g':Nat} {t':TypeId} {cs:Array Value} (h:RGB g t W w) (hg:Blk W g' t' cs) (hne:g'≠g):Blk w g' t' cs:=(h.1.block g' hg.lt (fun e=>hne (by injection e))).trans hg
end
theorem QRow.cells {w:World} {g n:Nat} {ps:List Rat} (h:QRow w g n ps) {j:Nat} (hj:j<n):∃ A k c A' k' c',
  w.cell? ⟨g,j*4,none⟩=some (.bool (decide ((ps[j]?.getD 0).num<0)))∧w.cell? ⟨g,j*4+1,none⟩=some (.slice A k c)∧w.cell? ⟨g,j*4+2,none⟩=some (.bool false)∧w.cell? ⟨g,j*4+3,none⟩=some (.slice A' k' c') ∧
  w.frozen? ⟨g,j*4,none⟩=false∧w.frozen? ⟨g,j*4+1,none⟩=false∧w.frozen? ⟨g,j*4+2,none⟩=false∧w.frozen? ⟨g,j*4+3,none⟩=false ∧
  k≤c∧k'≤c'∧Wat w A k (digs (ps[j]?.getD 0).num.natAbs)∧Wat w A' k' (denW (ps[j]?.getD 0).den):=by
 obtain ⟨_,cs,hb,_,_,hc⟩:=h;obtain ⟨A,k,c,A',k',c',e1,e2,e3,e4,e5,e6,e7,e8⟩:=hc j hj;exact ⟨A,k,c,A',k',c',(hb.cell _).trans e1,(hb.cell _).trans e2,(hb.cell _).trans e3,(hb.cell _).trans e4,hb.frozen _,hb.frozen _,hb.frozen _,hb.frozen _,e5,e6,e7,e8⟩
def AllR (w:World) (Nn Nd g n:Nat) (l:List (Int×Int)) (q:Rat) (k:Nat) (ps:List Rat) (bn:Bool) (bA:Option Addr) (bk bc:Nat) (bn':Bool) (bA':Option Addr) (bk' bc':Nat) (wr:World):Prop :=
 Below w.heap.size w wr∧Blk wr g 42 #[.bool bn,.slice bA bk bc,.bool bn',.slice bA' bk' bc']∧QAt Nn Nd wr bn bA bk bc bn' bA' bk' bc' (restAt l q k)∧QRow wr (g+1) n ps∧∀ j,j<k→ps[j]?.getD 0=partAt l q j
theorem qat_len {M Nn Nd:Nat} (HO:WOK M) (hnm:Nn≤M) (hdm:Nd≤M) {w:World} {A A':Option Addr} {k c k' c':Nat} {q:Rat} (hk:k≤c) (hk':k'≤c') (hW:Wat w A k (digs q.num.natAbs)) (hW':Wat w A' k' (denW q.den)) (hn:q.num.natAbs<Nn) (hd:q.den<Nd) :
  QAt Nn Nd w (decide (q.num<0)) A k c false A' k' c' q:=by
 refine qat_canon hk hk' hW hW' ?_ ?_ hn hd
 ·rw [← hW.1];exact HO.len _ (by omega)
 ·rw [← hW'.1];unfold denW;split
  ·simp
  ·exact HO.len _ (by omega)
end Go.Proofs.YtjajigkacccdgaaGreat
namespace Go.Proofs.YtjajigkacccdgaaGreat
open Go.RowKit
open Wd
attribute [local go_sem ↓] Go.wp_at_zero Go.wp_at_succ
def CQ (base:Nat) (w:World) (q:Rat) (A:Option Addr) (k c:Nat) (A':Option Addr) (k' c':Nat):Prop :=
 k≤c∧k'≤c'∧Wat w A k (digs q.num.natAbs)∧Wat w A' k' (denW q.den)∧Fresh base w A k∧Fresh base w A' k'
section
variable {base base':Nat} {w w':World} {q:Rat} {A A':Option Addr} {k c k' c':Nat}
theorem CQ.below (h:CQ base w q A k c A' k' c') (hb:Below w.heap.size w w'):CQ base w' q A k c A' k' c':=by
 obtain ⟨h1,h2,h3,h4,h5,h6⟩:=h;exact ⟨h1,h2,h3.below hb,h4.below hb,h5.keep h3 hb,h6.keep h4 hb⟩
theorem CQ.put4 {g o:Nat} {a b:Bool} {B B':Option Addr} {j d j' d':Nat} {t:TypeId} {cs:Array Value} (h:CQ base w q A k c A' k' c') (hb:Blk w g t cs) (hn:NoInt cs):CQ base (qst w g o a b B B' j d j' d') q A k c A' k' c':=by
 obtain ⟨h1,h2,h3,h4,h5,h6⟩:=h;exact ⟨h1,h2,h3.put4 hb hn,h4.put4 hb hn,(((h5.set _ _).set _ _).set _ _).set _ _,(((h6.set _ _).set _ _).set _ _).set _ _⟩
theorem CQ.zero:CQ base w 0 none 0 0 none 0 0:=by
 refine ⟨Nat.le_refl _,Nat.le_refl _,?_,Wat.nil,Fresh.nil,Fresh.nil⟩;show Wat _ none 0 (digs 0);rw [digs_zero];exact Wat.nil
theorem CQ.at {M Nn Nd:Nat} (h:CQ base w q A k c A' k' c') (HO:WOK M) (hnm:Nn≤M) (hdm:Nd≤M) (hn:q.num.natAbs<Nn) (hd:q.den<Nd):QAt Nn Nd w (decide (q.num<0)) A k c false A' k' c' q :=
 qat_len HO hnm hdm h.1 h.2.1 h.2.2.1 h.2.2.2.1 hn hd
end
def costAt (l:List (Int×Int)) (q:Rat):Nat→Rat
 | 0=>0
 | k+1=>costAt l q k+partAt l q k*(((l[k]?.getD (0,0)).2:Int):Rat)
structure CostOK (M Nn Nd Cn Cd:Nat) (l:List (Int×Int)) (q:Rat):Prop where
 hn:3000000<Nn
 hn2:Nn≤M
 hd:1<Nd
 nn:Nn*Nn≤M
 dd:Nd*Nd≤M
 nd:2*(Nn*Nd)≤M
 nm:Nn≤M
 dm:Nd≤M
 cnd:2*(Cn*Cd)≤M
 cdd:Cd*Cd≤M
 cn:Cn≤M
 cd:Cd≤M
 sum:∀ k,k≤l.length→(costAt l q k).num.natAbs<Cn∧(costAt l q k).den<Cd
 prod:∀ k,k<l.length→(partAt l q k*(((l[k]?.getD (0,0)).2:Int):Rat)).num.natAbs<Cn∧(partAt l q k*(((l[k]?.getD (0,0)).2:Int):Rat)).den<Cd
def CstR (w:World) (g gr n:Nat) (l:List (Int×Int)) (q:Rat) (ps:List Rat) (k:Nat) (A:Option Addr) (j c:Nat) (A':Option Addr) (j' c':Nat) (wr:World):Prop :=
 Below w.heap.size w wr∧Blk wr g 42 #[.bool (decide ((costAt l q k).num<0)),.slice A j c,.bool false,.slice A' j' c']∧CQ w.heap.size wr (costAt l q k) A j c A' j' c'∧QRow wr gr n ps
def CstPost (w:World) (r:Rat) (e:Ending) (w':World):Prop :=
 ∃ A k c A' k' c',e=.returned (.tuple #[.agg #[.bool (decide (r.num<0)),.slice A k c,.bool false,.slice A' k' c'],.int .i64 0])∧CQ w.heap.size w' r A k c A' k' c'∧Below w.heap.size w w'
end Go.Proofs.YtjajigkacccdgaaGreat
namespace Go.Proofs.YtjajigkacccdgaaGreat
namespace En
def qs:List (Int×Int)→Int
 | []=>0
 | s :: r=>s.1+qs r
structure PU where
 on:Bool
 mn:Int
 st:List (Int×Int)
end En
end Go.Proofs.YtjajigkacccdgaaGreat
namespace Go.Proofs.YtjajigkacccdgaaGreat
open Go.RowKit
open Wd
def restI (l:List (Int×Int)) (z:Int):Nat→Int
 | 0=>z
 | k+1=>restI l z k-min (restI l z k) (l[k]?.getD (0,0)).1
def partI (l:List (Int×Int)) (z:Int) (k:Nat):Int:=min (restI l z k) (l[k]?.getD (0,0)).1
def costI (l:List (Int×Int)) (z:Int):Nat→Int
 | 0=>0
 | k+1=>costI l z k+partI l z k*(l[k]?.getD (0,0)).2
theorem lessQ_whole (z a:Int):lessQ (z:Rat) a=((min z a:Int):Rat):=by
 unfold lessQ;by_cases h:a<z
 ·rw [if_pos (by exact_mod_cast h),show min z a=a by omega]
 ·rw [if_neg (by intro hh;exact h (by exact_mod_cast hh)),show min z a=z by omega]
theorem restAt_whole (l:List (Int×Int)) (z:Int):∀ k,restAt l (z:Rat) k=((restI l z k:Int):Rat)
 | 0=>rfl
 | k+1=>by rw [restAt,restI,restAt_whole l z k,lessQ_whole,Rat.intCast_sub]
theorem partAt_whole (l:List (Int×Int)) (z:Int) (k:Nat):partAt l (z:Rat) k=((partI l z k:Int):Rat):=by
 rw [partAt,partI,restAt_whole,lessQ_whole]
theorem prod_whole (l:List (Int×Int)) (z:Int) (k:Nat):partAt l (z:Rat) k*(((l[k]?.getD (0,0)).2:Int):Rat)=((partI l z k*(l[k]?.getD (0,0)).2:Int):Rat):=by
 rw [partAt_whole,Rat.intCast_mul]
theorem costAt_whole (l:List (Int×Int)) (z:Int):∀ k,costAt l (z:Rat) k=((costI l z k:Int):Rat)
 | 0=>rfl
 | k+1=>by rw [costAt,costI,costAt_whole l z k,prod_whole,Rat.intCast_add]
end Go.Proofs.YtjajigkacccdgaaGreat
