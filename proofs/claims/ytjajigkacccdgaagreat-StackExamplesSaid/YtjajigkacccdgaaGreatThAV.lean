/-
Lemmas of the walk; no further conditions.
-/
import Derived.Test.YtjajigkacccdgaaGreatThAU
import Derived.Laws.EntriesVeiled
set_option linter.unusedVariables false
set_option linter.unusedSimpArgs false
set_option maxRecDepth 100000
set_option maxHeartbeats 16000000
namespace Go.Proofs.YtjajigkacccdgaaGreat
open Go.RowKit
open Wd
def fst0 (f:Nat→Int):Nat→Int
 | 0=>0
 | n+1=>if fst0 f n=0 then f n else fst0 f n
theorem fst0_keep {f:Nat→Int} {k:Nat} (h:fst0 f k≠0):∀ d,fst0 f (k+d)=fst0 f k
 | 0=>rfl
 | d+1=>by
  have e:=fst0_keep h d;show (if fst0 f (k+d)=0 then f (k+d) else fst0 f (k+d))=_;rw [e,if_neg h]
theorem fst0_at {f:Nat→Int} {k n:Nat} (h0:fst0 f k=0) (h:f k≠0) (hk:k<n):fst0 f n=f k:=by
 have e:fst0 f (k+1)=f k:=by
  show (if fst0 f k=0 then f k else fst0 f k)=_;rw [if_pos h0]
 obtain ⟨d,rfl⟩:∃ d,n=k+1+d:=⟨n-(k+1),by omega⟩;rw [fst0_keep (by rw [e];exact h) d,e]
theorem fst0_next {f:Nat→Int} {k:Nat} (h0:fst0 f k=0) (h:f k=0):fst0 f (k+1)=0:=by
 show (if fst0 f k=0 then f k else fst0 f k)=_;rw [if_pos h0,h]
abbrev prt (lv:List St.Lv) (i:Nat):List Int:=(lv[i]?.getD Lv0).2.2
def chk1 (lv:List St.Lv) (i:Nat):Int :=
 if inR (prc lv i) (prt lv i)=false then 1
 else if (prt lv i).length≠(prt lv 0).length∨(lv[i]?.getD Lv0).2.1≠sumI (prt lv i)∨sumI (prt lv i)=0∨mvB lv i=false then 3 else 0
def chkL (lv:List St.Lv):Int:=if 48<lv.length then 5 else fst0 (chk1 lv) lv.length
theorem inR_bd {p:Int} {xs:List Int} (h:inR p xs=true):xs.length≤16∧∀ y∈xs,0≤y∧y≤1000000:=by
 simp only [inR,Bool.and_eq_true,decide_eq_true_eq,List.all_eq_true] at h;exact ⟨h.1.2,h.2⟩
theorem check_any (A:Option Addr) (m c:Nat) (lv:List St.Lv) (w:World) (h:LsAt w A m lv) :
  Calls Tryz.prog 27 #[.slice A m c] w fun e w'=>e=.returned (.int .i64 (chkL lv))∧Below w.heap.size w w':=by
 have hl:=h.1;by_cases hm:48<m
 ·have d1:decide ((48:Int)<(m:Int))=true:=by simp;omega
  have HF:Hid (chkL lv=5):=Hj (by rw [chkL,if_pos (by omega)]);clear hm h hl;go_enter Tryz.func27,Tryz.ntmps27;go_wp2;go_ret;exact ⟨by rw [HF.out];rfl,Below.refl _ _⟩
 have d1:decide ((48:Int)<(m:Int))=false:=by simp;omega
 have HR:Hid (chkL lv=fst0 (chk1 lv) m):=Hj (by rw [chkL,if_neg (by omega),hl]);have HL:=Hj h;have HLN:=Hj hl;clear h hl;go_enter Tryz.func27,Tryz.ntmps27
 go_wp2_with fail
 go_loopw [13] (fun t wr=>∃ k:Nat,k≤m∧t=.int .i64 k∧Hid (Below w.heap.size w wr∧fst0 (chk1 lv) k=0)) (fun t _=>m-(intOf t).toNat)
 case atStart=>exact ⟨0,Nat.zero_le _,rfl,Hj ⟨Below.refl _ _,rfl⟩⟩
 case round =>
  obtain ⟨k,hk,rfl,hBJ⟩:=hrel;have hB:=Hj hBJ.out.1;have HJ:=Hj hBJ.out.2;clear hBJ;by_cases hlt:k<m
  ·obtain ⟨b,o,rfl,hb,hcell⟩:=HL.out.2 (by omega);obtain ⟨A',c',⟨y0,y1,y2⟩,hp⟩:=hcell k hlt;obtain ⟨A0,c0,⟨-,-,z2⟩,-⟩:=hcell 0 (by omega);rw [Nat.zero_mul,Nat.add_zero] at z2;have HMV:=Hj (fun W (hW:Below w.heap.size w W)=>moves_any (some ⟨b,o,none⟩) m c k lv W (HL.out.below hW) (by omega) hlt);have HC:=Hj (show chk1 lv k=_ from rfl);have HFIN:=Hj (fun (z:Int) (e:chk1 lv k=z) (hz:z≠0)=>HR.out.trans ((fst0_at HJ.out (by rw [e];exact hz) hlt).trans e));have HC1:Hid (chk1 lv k=if inR (prc lv k) (prt lv k)=false then 1 else if (prt lv k).length≠(prt lv 0).length∨(lv[k]?.getD Lv0).2.1≠sumI (prt lv k)∨sumI (prt lv k)=0∨mvB lv k=false then 3 else 0):=Hj rfl;clear HC;unfold prc prt at HC1;generalize hz0:chk1 lv k=z0 at *;generalize mvB lv k=B at *;generalize (lv[k]?.getD Lv0).1=p at *;generalize (lv[k]?.getD Lv0).2.1=q at *;generalize (lv[k]?.getD Lv0).2.2=xs at *;generalize (lv[0]?.getD Lv0).2.2.length=n0 at *;have HZ0:=Hj hz0;clear hz0;replace y0:=(hB.out.cell (p:=⟨b,o+k*3,none⟩) hb).trans y0;replace y1:=(hB.out.cell (p:=⟨b,o+k*3+1,none⟩) hb).trans y1;replace y2:=(hB.out.cell (p:=⟨b,o+k*3+2,none⟩) hb).trans y2;have hki1:(0:Int)≤(k:Int):=by omega
   have hki2:(k:Int)<(m:Int):=by omega
   generalize hxl:xs.length=n at *;have HXL:=Hj hxl;clear hxl;have hbx:=Blk.new wr 64 #[.int .i64 p,.int .i64 q,.slice A' n c'];have hb1:Below w.heap.size w (wr.alloc (.cells #[.int .i64 p,.int .i64 q,.slice A' n c'] 64)):=hB.out.trans (((Below.refl _ _).alloc (Nat.le_refl _) _:Below wr.heap.size wr (wr.alloc (.cells #[.int .i64 p,.int .i64 q,.slice A' n c'] 64))).mono hB.out.size);have HIR:=Hj (inRange_any p q A' n c' xs (wr.alloc (.cells #[.int .i64 p,.int .i64 q,.slice A' n c'] 64)) (hp.below hb1));have HPT:=Hj hp;clear hcell hp;by_cases hir:inR p xs=false
   ·rw [hir] at HIR;have HF:=Hj (HFIN.out 1 (HC1.out.trans (if_pos hir)) (by decide));clear HMV HC1 HFIN
    go_wp2_with fail
    generalize wr.alloc (.cells #[.int .i64 p,.int .i64 q,.slice A' n c'] 64)=W at *;refine HIR.out.mono ?_;rintro e w1 ⟨rfl,hb2⟩;have HB1:=Hj (hb1.trans (hb2.mono hb1.size));clear hbx hb1 hb2 HIR y0 y1 y2;go_wp2;go_ret;exact ⟨by rw [HF.out];rfl,HB1.out⟩
   rw [Bool.not_eq_false] at hir;rw [hir] at HIR;have V2:=Hj (inR_bd hir);have HC2:=Hj (HC1.out.trans (if_neg (by rw [hir];decide)));clear HC1 hir
   go_wp2_with fail
   generalize wr.alloc (.cells #[.int .i64 p,.int .i64 q,.slice A' n c'] 64)=W at *;generalize wr.heap.size=g9 at *;obtain ⟨b0,b1,b2⟩:=hbx.three;refine HIR.out.mono ?_;rintro e w1 ⟨rfl,hb2⟩;have hbx1:=hbx.below hb2 hbx.lt;have hB1:=hb1.trans (hb2.mono hb1.size);clear b0 b1 b2 hbx hb1 hb2 HIR y0 y1 y2;obtain ⟨b0,b1,b2⟩:=hbx1.three;have HBX:=Hj hbx1;have HB1:=Hj hB1;have hg1:=hbx1.lt;clear hbx1 hB1;have hn16:n≤16:=by have:=V2.out.1;have:=HXL.out;omega
   go_wp2_with fail
   go_loopw [5,24] (fun t5 t wx=>∃ i:Nat,i≤n∧t=.int .i64 i∧t5=.int .i64 (sumI (xs.take i))∧Hid (wx=w1)) (fun _ t _=>n-(intOf t).toNat)
   case atStart=>exact ⟨0,Nat.zero_le _,rfl,rfl,by first|exact Hj rfl|exact Hj trivial⟩
   case round =>
    obtain ⟨i,hi,rfl,rfl,hW⟩:=hrel;obtain rfl:=hW.out;by_cases hin:i<n
    ·obtain ⟨b5,o5,rfl,hb5,hc5⟩:=HPT.out.2 (by omega);have hx:=(HB1.out.cell (p:=⟨b5,o5+i,none⟩) hb5).trans (hc5 i hin);have hs:=take_int (xs:=xs) (k:=i) (by rw [HXL.out];exact hin);have hbd1:=sumI_bd (xs.take i) fun y hy=>V2.out.2 y (List.mem_of_mem_take hy);have hbd2:=V2.out.2 _ (getD_mem (d:=0) (show i<xs.length by rw [HXL.out];exact hin));have hl2:=List.length_take_le i xs;have hs2:sumI (xs.take (i+1))=sumI (xs.take i)+xs[i]?.getD 0:=by rw [hs,sumI_snoc]
     generalize xs[i]?.getD 0=x at *;generalize hsi:sumI (xs.take i)=s at *;have xw:IntKind.i64.wrap (s+x)=s+x:=IntWalk.i64_in _ (by omega);have i1:(0:Int)≤(i:Int):=by omega
     have i2:(i:Int)<(n:Int):=by omega
     have HS2:=Hj hs2;clear hs hs2 hbd1 hbd2 hl2 hc5 hsi;go_wp2;go_roundw
     case rel=>exact ⟨i+1,by omega,by go_num,by rw [HS2.out],by first|exact Hj rfl|exact Hj trivial⟩
     case measure=>simp [intOf];omega
    ·obtain rfl:i=n:=by omega
     rw [List.take_of_length_le (by rw [HXL.out];exact Nat.le_refl _)];generalize sumI xs=S at *;have HBAD:=Hj (fun hh=>HFIN.out 3 (HC2.out.trans (if_pos hh)) (by decide));have HGOOD:=Hj (fun hh=>HC2.out.trans (if_neg hh));clear HC2 HFIN V2 HXL HPT;by_cases c1:i≠n0
     ·have HF:=Hj (HBAD.out (.inl c1));have n1:((i:Int) != (n0:Int))=true:=by simp;omega
      clear c1 HBAD HGOOD;have hbr:b<wr.heap.size:=Nat.lt_of_lt_of_le hb HB1.out.size;have u0:=fun s:KW wr=>(Below.cell s.h (p:=⟨g9,0,none⟩) hg1).trans b0;have u1:=fun s:KW wr=>(Below.cell s.h (p:=⟨g9,1,none⟩) hg1).trans b1;have u2:=fun s:KW wr=>(Below.cell s.h (p:=⟨g9,2,none⟩) hg1).trans b2;have u3:=fun s:KW wr=>(Below.cell s.h (p:=⟨b,o+2,none⟩) hbr).trans ((HB1.out.cell (p:=⟨b,o+2,none⟩) hb).trans z2);have m0:(0:Int)<(m:Int):=by omega
      go_wp2_with fail
      try simp only [List.append_eq,List.cons_append,List.nil_append]
      refine wp_region_kw (W:=wr) (by kernel_rfl) (by kernel_rfl) ?_
      repeat (go_big_quiet_step ((go_at_call 82;exact kw_call (HMV.out _ (HB1.out.trans (Below.mono (KW.h _) HB1.out.size))))))
      refine wpQuiet_nil ?_;intro v1 hw1;have hv1:Kp wr v1:=by obtain ⟨s,rfl⟩:=hw1;exact s.h
      have HV1:=Hj (HB1.out.trans (Below.mono hv1 HB1.out.size));clear hw1 hv1 u0 u1 u2 u3 HMV b0 b1 b2;go_wp2;go_ret;exact ⟨by rw [HF.out];rfl,HV1.out⟩
     have n1:((i:Int) != (n0:Int))=false:=by simp;omega
     by_cases c2:q≠S
     ·have HF:=Hj (HBAD.out (.inr (.inl c2)));have n2:(q != S)=true:=by simpa using c2
      clear c2 HBAD HGOOD;have hbr:b<wr.heap.size:=Nat.lt_of_lt_of_le hb HB1.out.size;have u0:=fun s:KW wr=>(Below.cell s.h (p:=⟨g9,0,none⟩) hg1).trans b0;have u1:=fun s:KW wr=>(Below.cell s.h (p:=⟨g9,1,none⟩) hg1).trans b1;have u2:=fun s:KW wr=>(Below.cell s.h (p:=⟨g9,2,none⟩) hg1).trans b2;have u3:=fun s:KW wr=>(Below.cell s.h (p:=⟨b,o+2,none⟩) hbr).trans ((HB1.out.cell (p:=⟨b,o+2,none⟩) hb).trans z2);have m0:(0:Int)<(m:Int):=by omega
      go_wp2_with fail
      try simp only [List.append_eq,List.cons_append,List.nil_append]
      refine wp_region_kw (W:=wr) (by kernel_rfl) (by kernel_rfl) ?_
      repeat (go_big_quiet_step ((go_at_call 82;exact kw_call (HMV.out _ (HB1.out.trans (Below.mono (KW.h _) HB1.out.size))))))
      refine wpQuiet_nil ?_;intro v1 hw1;have hv1:Kp wr v1:=by obtain ⟨s,rfl⟩:=hw1;exact s.h
      have HV1:=Hj (HB1.out.trans (Below.mono hv1 HB1.out.size));clear hw1 hv1 u0 u1 u2 u3 HMV b0 b1 b2;go_wp2;go_ret;exact ⟨by rw [HF.out];rfl,HV1.out⟩
     have n2:(q != S)=false:=by simpa using c2
     by_cases c3:S=0
     ·have HF:=Hj (HBAD.out (.inr (.inr (.inl c3))));have n3:(S == 0)=true:=by simpa using c3
      clear c3 HBAD HGOOD;have hbr:b<wr.heap.size:=Nat.lt_of_lt_of_le hb HB1.out.size;have u0:=fun s:KW wr=>(Below.cell s.h (p:=⟨g9,0,none⟩) hg1).trans b0;have u1:=fun s:KW wr=>(Below.cell s.h (p:=⟨g9,1,none⟩) hg1).trans b1;have u2:=fun s:KW wr=>(Below.cell s.h (p:=⟨g9,2,none⟩) hg1).trans b2;have u3:=fun s:KW wr=>(Below.cell s.h (p:=⟨b,o+2,none⟩) hbr).trans ((HB1.out.cell (p:=⟨b,o+2,none⟩) hb).trans z2);have m0:(0:Int)<(m:Int):=by omega
      go_wp2_with fail
      try simp only [List.append_eq,List.cons_append,List.nil_append]
      refine wp_region_kw (W:=wr) (by kernel_rfl) (by kernel_rfl) ?_
      repeat (go_big_quiet_step ((go_at_call 82;exact kw_call (HMV.out _ (HB1.out.trans (Below.mono (KW.h _) HB1.out.size))))))
      refine wpQuiet_nil ?_;intro v1 hw1;have hv1:Kp wr v1:=by obtain ⟨s,rfl⟩:=hw1;exact s.h
      have HV1:=Hj (HB1.out.trans (Below.mono hv1 HB1.out.size));clear hw1 hv1 u0 u1 u2 u3 HMV b0 b1 b2;go_wp2;go_ret;exact ⟨by rw [HF.out];rfl,HV1.out⟩
     have n3:(S == 0)=false:=by simpa using c3
     by_cases c4:B=false
     ·have HF:=Hj (HBAD.out (.inr (.inr (.inr c4))));subst c4;clear HBAD HGOOD;have hbr:b<wr.heap.size:=Nat.lt_of_lt_of_le hb HB1.out.size;have u0:=fun s:KW wr=>(Below.cell s.h (p:=⟨g9,0,none⟩) hg1).trans b0;have u1:=fun s:KW wr=>(Below.cell s.h (p:=⟨g9,1,none⟩) hg1).trans b1;have u2:=fun s:KW wr=>(Below.cell s.h (p:=⟨g9,2,none⟩) hg1).trans b2;have u3:=fun s:KW wr=>(Below.cell s.h (p:=⟨b,o+2,none⟩) hbr).trans ((HB1.out.cell (p:=⟨b,o+2,none⟩) hb).trans z2);have m0:(0:Int)<(m:Int):=by omega
      go_wp2_with fail
      try simp only [List.append_eq,List.cons_append,List.nil_append]
      refine wp_region_kw (W:=wr) (by kernel_rfl) (by kernel_rfl) ?_
      repeat (go_big_quiet_step ((go_at_call 82;exact kw_call (HMV.out _ (HB1.out.trans (Below.mono (KW.h _) HB1.out.size))))))
      refine wpQuiet_nil ?_;intro v1 hw1;have hv1:Kp wr v1:=by obtain ⟨s,rfl⟩:=hw1;exact s.h
      have HV1:=Hj (HB1.out.trans (Below.mono hv1 HB1.out.size));clear hw1 hv1 u0 u1 u2 u3 HMV b0 b1 b2;go_wp2;go_ret;exact ⟨by rw [HF.out];rfl,HV1.out⟩
     have HF:=Hj (HGOOD.out (by intro hh;rcases hh with hh|hh|hh|hh;exact c1 hh;exact c2 hh;exact c3 hh;exact c4 hh));have c4':B=true:=by simpa using c4
     subst c4';clear c1 c2 c3 c4 HBAD HGOOD;have hbr:b<wr.heap.size:=Nat.lt_of_lt_of_le hb HB1.out.size;have u0:=fun s:KW wr=>(Below.cell s.h (p:=⟨g9,0,none⟩) hg1).trans b0;have u1:=fun s:KW wr=>(Below.cell s.h (p:=⟨g9,1,none⟩) hg1).trans b1;have u2:=fun s:KW wr=>(Below.cell s.h (p:=⟨g9,2,none⟩) hg1).trans b2;have u3:=fun s:KW wr=>(Below.cell s.h (p:=⟨b,o+2,none⟩) hbr).trans ((HB1.out.cell (p:=⟨b,o+2,none⟩) hb).trans z2);have m0:(0:Int)<(m:Int):=by omega
     go_wp2_with fail
     try simp only [List.append_eq,List.cons_append,List.nil_append]
     refine wp_region_kw (W:=wr) (by kernel_rfl) (by kernel_rfl) ?_
     repeat (go_big_quiet_step ((go_at_call 82;exact kw_call (HMV.out _ (HB1.out.trans (Below.mono (KW.h _) HB1.out.size))))))
     refine wpQuiet_nil ?_;intro v1 hw1;have hv1:Kp wr v1:=by obtain ⟨s,rfl⟩:=hw1;exact s.h
     have HV1:=Hj (HB1.out.trans (Below.mono hv1 HB1.out.size));clear hw1 hv1 u0 u1 u2 u3 HMV b0 b1 b2;go_wp2;go_roundw
     case rel=>exact ⟨k+1,by omega,by go_num,Hj ⟨HV1.out,fst0_next HJ.out (HZ0.out.trans HF.out)⟩⟩
     case measure=>simp [intOf];omega
  ·obtain rfl:k=m:=by omega
   have HF:=Hj (HR.out.trans HJ.out);go_wp2;go_ret;exact ⟨by rw [HF.out];rfl,hB.out⟩
theorem fst0_all {f:Nat→Int}:∀ {n:Nat},fst0 f n=0→∀ j,j<n→f j=0
 | 0,_,j,hj=>absurd hj (Nat.not_lt_zero j)
 | n+1,h,j,hj=>by
  have h':(if fst0 f n=0 then f n else fst0 f n)=0:=h;by_cases h0:fst0 f n=0
  ·rw [if_pos h0] at h';by_cases hjn:j=n
   ·rw [hjn];exact h'
   ·exact fst0_all h0 j (by omega)
  ·rw [if_neg h0] at h';exact absurd h' h0
theorem chkL_ok {lv:List St.Lv} (h:chkL lv=0):lv.length≤48∧∀ i,i<lv.length→chk1 lv i=0:=by
 unfold chkL at h;by_cases hm:48<lv.length
 ·rw [if_pos hm] at h;exact absurd h (by decide)
 ·rw [if_neg hm] at h;exact ⟨by omega,fst0_all h⟩
theorem chk1_ok {lv:List St.Lv} {i:Nat} (h:chk1 lv i=0):inR (prc lv i) (prt lv i)=true∧(prt lv i).length=(prt lv 0).length∧(lv[i]?.getD Lv0).2.1=sumI (prt lv i)∧sumI (prt lv i)≠0∧mvB lv i=true:=by
 unfold chk1 at h;by_cases hr:inR (prc lv i) (prt lv i)=false
 ·rw [if_pos hr] at h;exact absurd h (by decide)
 rw [if_neg hr] at h;by_cases hc:(prt lv i).length≠(prt lv 0).length∨(lv[i]?.getD Lv0).2.1≠sumI (prt lv i)∨sumI (prt lv i)=0∨mvB lv i=false
 ·rw [if_pos hc] at h;exact absurd h (by decide)
 refine ⟨by simpa using hr,?_,?_,?_,?_⟩
 ·exact Decidable.byContradiction fun e=>hc (.inl e)
 ·exact Decidable.byContradiction fun e=>hc (.inr (.inl e))
 ·exact fun e=>hc (.inr (.inr (.inl e)))
 ·cases hb:mvB lv i with
  | true=>rfl
  | false=>exact absurd (.inr (.inr (.inr hb))) hc
theorem chkL_qty {lv:List St.Lv} (h:chkL lv=0):∀ x∈lv,0<x.2.1∧x.2.1≤16000000:=fun x hx=>by
 obtain ⟨j,hj,rfl⟩:=List.getElem_of_mem hx;obtain ⟨h1,-,h3,h4,-⟩:=chk1_ok ((chkL_ok h).2 j hj);have h5:=inR_bd h1;have h6:=sumI_bd _ h5.2;have e:lv[j]?.getD Lv0=lv[j]:=by rw [List.getElem?_eq_getElem hj];rfl
 have h7:=h5.1;rw [e] at h3;omega
def totL (lv:List St.Lv):Int:=if chkL lv=0 then totI lv else 0
theorem total_any (A:Option Addr) (m c:Nat) (lv:List St.Lv) (w:World) (h:LsAt w A m lv) :
  Calls Tryz.prog 29 #[.slice A m c] w fun e w'=>e=.returned (.int .i64 (totL lv))∧Below w.heap.size w w':=by
 have hl:=h.1;have HCK:=Hj (check_any A m c lv w h);by_cases hc:chkL lv=0
 ·have HT:Hid (totL lv=totI lv):=Hj (by rw [totL,if_pos hc]);have hm:m≤48:=by have:=(chkL_ok hc).1;omega
  have HL:=Hj h;have HLN:=Hj hl;have HQ:=Hj (chkL_qty hc);rw [hc] at HCK;clear h hl hc;go_enter Tryz.func29,Tryz.ntmps29
  go_wp2_with fail
  refine HCK.out.mono ?_;rintro e w0 ⟨rfl,hb0⟩;have HB0:=Hj hb0;clear hb0 HCK
  go_wp2_with fail
  go_loopw [3,11] (fun t3 t wr=>∃ k:Nat,k≤m∧t=.int .i64 k∧t3=.int .i64 (totI (lv.take k))∧Hid (Below w.heap.size w wr)) (fun _ t _=>m-(intOf t).toNat)
  case atStart=>exact ⟨0,Nat.zero_le _,rfl,rfl,HB0.out⟩
  case round =>
   obtain ⟨k,hk,rfl,rfl,hB⟩:=hrel;by_cases hlt:k<m
   ·obtain ⟨b,o,rfl,hb,hcell⟩:=HL.out.2 (by omega);obtain ⟨A',c',⟨y0,y1,y2⟩,-⟩:=hcell k hlt;have hsn:=tot_snoc (lv:=lv) (k:=k) (by rw [HLN.out];exact hlt);have hq:=HQ.out _ (getD_mem (d:=Lv0) (show k<lv.length by rw [HLN.out];exact hlt));have hbd:=tot_bd (lv.take k) fun x hx=>HQ.out x (List.mem_of_mem_take hx);have hl2:=List.length_take_le k lv;generalize (lv[k]?.getD Lv0).1=p at *;generalize (lv[k]?.getD Lv0).2.1=q at *;generalize hts:totI (lv.take k)=s at *;replace y0:=(hB.out.cell (p:=⟨b,o+k*3,none⟩) hb).trans y0;replace y1:=(hB.out.cell (p:=⟨b,o+k*3+1,none⟩) hb).trans y1;replace y2:=(hB.out.cell (p:=⟨b,o+k*3+2,none⟩) hb).trans y2;have xw:IntKind.i64.wrap (s+q)=s+q:=IntWalk.i64_in _ (by omega);have hki1:(0:Int)≤(k:Int):=by omega
    have hki2:(k:Int)<(m:Int):=by omega
    have HSN:=Hj hsn;have HB1:=Hj (hB.out.trans (((Below.refl _ _).alloc (Nat.le_refl _) _:Below wr.heap.size wr (wr.alloc (.cells #[.int .i64 p,.int .i64 q,.slice A' (lv[k]?.getD Lv0).2.2.length c'] 64))).mono hB.out.size));clear hcell hsn hq hbd hl2 hts;go_wp2;go_roundw
    case rel=>exact ⟨k+1,by omega,by go_num,by rw [HSN.out],HB1.out⟩
    case measure=>simp [intOf];omega
   ·obtain rfl:k=m:=by omega
    rw [List.take_of_length_le (by rw [HLN.out];exact Nat.le_refl _)];go_wp2;go_ret;exact ⟨by rw [HT.out];rfl,hB.out⟩
 ·have HT:Hid (totL lv=0):=Hj (by rw [totL,if_neg hc]);have hz:(chkL lv != 0)=true:=by simpa using hc
  generalize chkL lv=z at *;clear h hl hc;go_enter Tryz.func29,Tryz.ntmps29
  go_wp2_with fail
  refine HCK.out.mono ?_;rintro e w0 ⟨rfl,hb0⟩;have HB0:=Hj hb0;clear hb0 HCK;go_wp2;go_ret;exact ⟨by rw [HT.out];rfl,HB0.out⟩
theorem ltU_trans {up:Bool} {a b c:Int} (h1:St.ltU up a b) (h2:St.ltU up b c):St.ltU up a c:=by
 unfold St.ltU at *;cases up<;>simp at *<;>omega
theorem mvB_lt {lv:List St.Lv} {i:Nat} (h:mvB lv (i+1)=true):St.ltU (decide (prc lv 0<prc lv 1)) (prc lv i) (prc lv (i+1)):=by
 have e:mvB lv (i+1)=(!(prc lv (i+1) == prc lv i) && (decide (prc lv i<prc lv (i+1)) == decide (prc lv 0<prc lv 1))):=by simp [mvB]
 rw [e] at h;generalize prc lv 0=a at *;generalize prc lv 1=b at *;generalize prc lv i=x at *;generalize prc lv (i+1)=y at *;unfold St.ltU;simp at h;obtain ⟨h1,h2⟩:=h;by_cases hab:a<b
 ·have:x<y:=h2.2 hab;simpa [hab] using this
 ·have:¬ x<y:=fun q=>hab (h2.1 q);simp [hab];omega
theorem chkL_mono {lv:List St.Lv} (h:chkL lv=0):∀ (d i:Nat),i+d+1<lv.length→St.ltU (decide (prc lv 0<prc lv 1)) (prc lv i) (prc lv (i+d+1))
 | 0,i,hi=>mvB_lt (chk1_ok ((chkL_ok h).2 (i+1) hi)).2.2.2.2
 | d+1,i,hi=>ltU_trans (chkL_mono h d i (by omega)) (mvB_lt (chk1_ok ((chkL_ok h).2 (i+d+1+1) (by omega))).2.2.2.2)
theorem getD_at {lv:List St.Lv} {i:Nat} (h:i<lv.length):lv[i]?.getD Lv0=lv[i]:=by
 rw [List.getElem?_eq_getElem h];rfl
theorem chkL_VL {lv:List St.Lv} (h:chkL lv=0):∃ up,VL up (prt lv 0).length lv:=by
 refine ⟨decide (prc lv 0<prc lv 1),(chkL_ok h).1,fun hn=>?_,?_,fun x hx=>?_,fun x hx=>?_,fun x hx=>?_,?_⟩
 ·have h1:=(chk1_ok ((chkL_ok h).2 0 (by omega))).1;simp only [inR,Bool.and_eq_true,decide_eq_true_eq] at h1;exact h1.1.1.2
 ·by_cases hn:lv.length=0
  ·have e:lv=[]:=List.length_eq_zero_iff.1 hn;subst e;decide
  ·exact (inR_bd (chk1_ok ((chkL_ok h).2 0 (by omega))).1).1
 ·obtain ⟨j,hj,rfl⟩:=List.getElem_of_mem hx;have h1:=(chk1_ok ((chkL_ok h).2 j hj)).1;simp only [inR,Bool.and_eq_true,decide_eq_true_eq] at h1;have h2:=h1.1.1.1;unfold prc at h2
  rwa [getD_at hj] at h2
 ·obtain ⟨j,hj,rfl⟩:=List.getElem_of_mem hx;obtain ⟨h1,h2,-⟩:=chk1_ok ((chkL_ok h).2 j hj);have h3:=(inR_bd h1).2;unfold prt at h2 h3;rw [getD_at hj] at h2 h3;exact ⟨h2,h3⟩
 ·obtain ⟨j,hj,rfl⟩:=List.getElem_of_mem hx;obtain ⟨-,-,h2,h3,-⟩:=chk1_ok ((chkL_ok h).2 j hj);unfold prt at h2 h3;rw [getD_at hj] at h2 h3;exact ⟨h2,by rw [h2];exact h3⟩
 ·rw [List.pairwise_iff_getElem];intro i j hi hj hij;rw [List.length_map] at hi hj;have h1:=chkL_mono h (j-i-1) i (by omega);rw [show i+(j-i-1)+1=j by omega] at h1;unfold prc at h1;rw [getD_at hi,getD_at hj] at h1;simpa using h1
theorem LsAt.lv {w:World} {A:Option Addr} {m:Nat} {lv:List St.Lv} (h:LsAt w A m lv) (hc:chkL lv=0):LvAt w A m (prt lv 0).length lv:=by
 refine ⟨h.1,fun hm=>?_⟩;obtain ⟨b,o,hA,hb,hcell⟩:=h.2 hm;refine ⟨b,o,hA,hb,fun j hj=>?_⟩;have e:=(chk1_ok ((chkL_ok hc).2 j (by rw [h.1];exact hj))).2.1;obtain ⟨A',c',h1,h2⟩:=hcell j hj;unfold prt at e;rw [e] at h1 h2;exact ⟨A',c',h1,h2⟩
def stCells (l:List (Int×Int)):List Value:=l.flatMap fun s=>[.int .i64 s.1,.int .i64 s.2]
theorem stCells_append (a b:List (Int×Int)):stCells (a ++ b)=stCells a ++ stCells b:=by simp [stCells]
theorem stCells_len (l:List (Int×Int)):(stCells l).length=l.length*2:=by
 induction l with
 | nil=>rfl
 | cons s l ih =>
  have:stCells (s :: l)=[.int .i64 s.1,.int .i64 s.2] ++ stCells l:=by simp [stCells]
  rw [this,List.length_append,ih];simp;omega
theorem stCells_get:∀ (l:List (Int×Int)) (j:Nat),j<l.length→(stCells l)[j*2]?=some (.int .i64 (l[j]?.getD (0,0)).1)∧(stCells l)[j*2+1]?=some (.int .i64 (l[j]?.getD (0,0)).2)
 | [],j,h=>absurd h (by simp)
 | s :: l,0,_=>by simp [stCells]
 | s :: l,j+1,h=>by
  have e:stCells (s :: l)=.int .i64 s.1 :: .int .i64 s.2 :: stCells l:=by simp [stCells]
  have ih:=stCells_get l j (by simpa using h);rw [e,show (j+1)*2=j*2+1+1 by omega,show j*2+1+1+1=(j*2+1)+1+1 by omega,List.getElem?_cons_succ,List.getElem?_cons_succ,List.getElem?_cons_succ,List.getElem?_cons_succ,List.getElem?_cons_succ];exact ih
theorem stCells_one (l:List (Int×Int)):∀ u∈stCells l,u.oneCell'=true:=by
 intro u hu;obtain ⟨s,_,h⟩:=List.mem_flatMap.1 hu;simp at h;rcases h with rfl|rfl<;>rfl
theorem Own.steps {base:Nat} {e:TypeId} {w:World} {A:Option Addr} {n c:Nat} {l:List (Int×Int)} (h:Own base e 2 w A n c (stCells l)) (hf:∀ s∈l,Fits s.1∧Fits s.2):StAt w A n l:=by
 have hl:l.length=n:=by have:=h.1;rw [stCells_len] at this;omega
 refine ⟨hl,hf,fun hn=>?_⟩;obtain ⟨g,cap,hv,hb,hlt⟩:=World.ownsRow.form h (by omega);simp at hv;obtain ⟨rfl,rfl⟩:=hv;have hcl:=stCells_len l;refine ⟨g,0,rfl,hlt,fun j hj=>?_⟩;obtain ⟨g1,g2⟩:=stCells_get l j (by omega);rw [Nat.zero_add,World.ownsRow.cellAt h (j*2) (by omega),World.ownsRow.cellAt h (j*2+1) (by omega)];exact ⟨g1,g2⟩
theorem info_step:(Tryz.prog.info? 107).map (fun i=>(i.zero,i.size,i.bytes))=some (some (.agg #[.int .i64 0,.int .i64 0]),2,16):=by kernel_rfl
def prs (xs:List Int):Nat→List (Int×Int)
 | 0=>[]
 | k+1=>prs xs k ++ [(xs[2*k]?.getD 0,xs[2*k+1]?.getD 0)]
theorem prs_fits {xs:List Int} (h:∀ i:Nat,Fits (xs[i]?.getD 0)):∀ k,∀ s∈prs xs k,Fits s.1∧Fits s.2
 | 0,s,hs=>by simp [prs] at hs
 | k+1,s,hs=>by
  rw [prs,List.mem_append] at hs;rcases hs with hs|hs
  ·exact prs_fits h k s hs
  ·simp at hs;rw [hs];exact ⟨h _,h _⟩
theorem curve_any (A:Option Addr) (n c:Nat) (xs:List Int) (w:World) (h:IsAt w A (2*n) xs) (hn:n≤1000000) (hf:∀ i:Nat,Fits (xs[i]?.getD 0)) :
  Calls Tryz.prog 36 #[.slice A ((2*n:Nat)) c] w fun e w'=>∃ A1 c1,e=.returned (.slice A1 n c1)∧StAt w' A1 n (prs xs n)∧Below w.heap.size w w':=by
 have HX:=Hj h;have HFT:=Hj hf;obtain ⟨ii,hii,hz0,hz1,hz2⟩:=info_parts info_step;have HI:=Hj hii;have HZ0:=Hj hz0;have HZ1:=Hj hz1;have HZ2:=Hj hz2;generalize hN:2*n=N at *;have HN:=Hj hN;clear h hf hii hz0 hz1 hz2 hN;go_enter Tryz.func36,Tryz.ntmps36
 go_wp2_with fail
 go_loopw [3,4] (fun th t wr=>∃ (i k:Nat) (Ah:Option Addr) (ch:Nat),i≤n∧t=.int .i64 (k:Int)∧th=.slice Ah i ch∧Hid (k=2*i)∧Hid (Below w.heap.size w wr∧Own w.heap.size 107 2 wr Ah i ch (stCells (prs xs i)))) (fun _ t _=>N+2-(intOf t).toNat)
 case atStart=>exact ⟨0,0,none,0,Nat.zero_le _,rfl,rfl,rfl,Below.refl _ _,Own.nil _ _ _ _⟩
 case round =>
  obtain ⟨i,k,Ah,ch,hi,rfl,rfl,hK,hR⟩:=hrel;have hki:=hK.out;have hN:=HN.out;have e0:IntKind.i64.wrap ((k:Int)+1)=(k:Int)+1:=IntWalk.i64_in _ (by omega);have e1:IntKind.i64.wrap ((k:Int)+2)=(k:Int)+2:=IntWalk.i64_in _ (by omega);by_cases hlt:i<n
  ·obtain ⟨hB,hO⟩:=hR.out;obtain ⟨g,o,rfl,hb,hc⟩:=HX.out.2 (by omega);have hc0:=hc k (by omega);have hc1:=hc (k+1) (by omega);have hsn:prs xs (i+1)=prs xs i ++ [(xs[k]?.getD 0,xs[k+1]?.getD 0)]:=by rw [hki];rfl
   have hlt1:((k:Int)+1<(N:Int)):=by omega
   have hlt2:((k:Int)<(N:Int)):=by omega
   have hlt3:((0:Int)≤(k:Int)):=by omega
   have hlt4:((0:Int)≤(k:Int)+1):=by omega
   have d1:decide ((k:Int)+1<(N:Int))=true:=decide_eq_true hlt1;have tn2:((k:Int)+1).toNat=k+1:=by omega
   generalize xs[k]?.getD 0=a at *;generalize xs[k+1]?.getD 0=b at *;have hS:∀ w',Below w.heap.size w w'→(w'.cell? ⟨g,o+k,none⟩=some (.int .i64 a)∧w'.cell? ⟨g,o+(k+1),none⟩=some (.int .i64 b))∧Below w.heap.size w w':=fun w' hk=>⟨⟨(hk.cell (p:=⟨g,_,none⟩) hb).trans hc0,(hk.cell (p:=⟨g,_,none⟩) hb).trans hc1⟩,hk⟩;have HS:=Hj hS;have HSN:=Hj hsn;have HNK:=Hj (show N=2*n∧k=2*i from ⟨hN.symm,hki⟩);have q0:=hB;have k1:=(Kp.refl wr).alloc (.cells #[.int .i64 a,.int .i64 b] 107);have q1:Below w.heap.size w (wr.alloc (.cells #[.int .i64 a,.int .i64 b] 107)):=hB.trans (Below.mono k1 hB.size);have o1:=hO.keep k1;have m1:=Blk.new wr 107 #[.int .i64 a,.int .i64 b];have hin:i≤1000000:=by omega
   clear hsn hc hc0 hc1 hR hN hki hK hS
   go_wp2_with fail
   go_region_held3 (fun w'=>(w'.cell? ⟨g,o+k,none⟩=some (.int .i64 a)∧w'.cell? ⟨g,o+(k+1),none⟩=some (.int .i64 b))∧Below w.heap.size w w')
    (first|exact HS.out _ g1|exact HS.out _ q0.drew|exact HS.out _ q1.drew)
    (first
     | (refine step_append_my (base:=w.heap.size) (e:=107) (size:=2) (bytes:=16) (by rfl) (.tmp 12) (.tmp 23) 29 rfl Tryz.underlying29 HI.out HZ0.out HZ1.out HZ2.out rfl (by decide) (xs:=stCells (prs xs i)) (news:=[.int .i64 a,.int .i64 b]) rfl (by exact o1) rfl (by exact Blk.src m1 rfl (stCells_one [(a,b)])) (by simp only [maxLen];omega) (by omega) (Below.size (w:=w) (B:=w.heap.size) (by exact q1.drew)) ?_
        intro B1 cb1 w1 hO1 hb1 hk1;have g1:Below w.heap.size w w1:=Below.trans (by exact q1.drew) hb1;clear hb1 hk1))
   have hfin:Below w.heap.size w w1∧Own w.heap.size 107 2 w1 B1 (i+1) cb1 (stCells (prs xs (i+1))):=by
    refine ⟨g1,?_⟩;rw [HSN.out,stCells_append];exact hO1
   have HF:=Hj hfin;clear hfin g1 hO1;go_wp2;go_roundw
   case rel=>exact ⟨i+1,k+2,B1,cb1,by omega,by go_num,rfl,(by have:=HNK.out;omega:k+2=2*(i+1)),HF.out⟩
   case measure =>
    have:=HNK.out;simp [intOf];omega
  ·obtain rfl:i=n:=by omega
   have d1:decide ((k:Int)+1<(N:Int))=false:=decide_eq_false (by omega);have hfin:StAt wr Ah i (prs xs i)∧Below w.heap.size w wr:=⟨hR.out.2.steps (prs_fits HFT.out _),hR.out.1⟩;have HF:=Hj hfin;clear hfin hR hN hki;go_wp2;go_ret;exact ⟨Ah,ch,rfl,HF.out⟩
def tl (hs:List Int):Nat→Nat
 | 0=>0
 | k+1=>if hs[k]?.getD 0=0 then tl hs k else k+1
theorem tl_le (hs:List Int):∀ k,tl hs k≤k
 | 0=>Nat.le_refl _
 | k+1=>by
  have:=tl_le hs k;rw [tl];split<;>omega
theorem IsAt.take {w:World} {A:Option Addr} {n k:Nat} {us:List Int} (h:IsAt w A n us) (hk:k≤n):IsAt w A k (us.take k):=by
 refine ⟨by simp [h.1,hk],fun h0=>?_⟩;obtain ⟨b,o,e,hlt,hc⟩:=h.2 (by omega);exact ⟨b,o,e,hlt,fun j hj=>by rw [List.getElem?_take,if_pos hj];exact hc j (by omega)⟩
theorem info_int:(Tryz.prog.info? 3).map (fun i=>(i.zero,i.size,i.bytes))=some (some (.int .i64 0),1,8):=by kernel_rfl
theorem rtrim_at (A:Option Addr) (n c:Nat) (hs:List Int) (w:World) (h:IsAt w A n hs) (hnc:n≤c) (hn:n≤1000000000000) :
  Calls Tryz.prog 211 #[.slice A n c] w fun e w'=>∃ A1,e=.returned (.slice A1 (tl hs n) c)∧IsAt w' A1 (tl hs n) (hs.take (tl hs n))∧w'=w∧∀ b o,A=some ⟨b,o,none⟩→A1=some ⟨b,o,none⟩:=by
 have HX:=Hj h;have HE:∀ k,k≤n→∃ A1,(∀ W,(Instr.sliceAt 199 (.slice A n c) none (some (.int .i64 (k:Int))) none).run Tryz.prog W=.ok (.slice A1 k c) W)∧IsAt w A1 k (hs.take k)∧∀ b o,A=some ⟨b,o,none⟩→A1=some ⟨b,o,none⟩:=fun k hk=>by
  obtain ⟨ii,hii,_⟩:=info_parts info_int;obtain ⟨A1,h1,h2⟩:=slice_lo (P:=Tryz.prog) Tryz.underlying199 hii A n c k (by omega);refine ⟨A1,h1,⟨(h.take hk).1,fun h0=>?_⟩,h2⟩;obtain ⟨b,o,e,hh⟩:=(h.take hk).2 h0;exact ⟨b,o,h2 b o e,hh⟩
 have HSL:=Hj HE;clear h HE;go_enter Tryz.func211,Tryz.ntmps211
 go_wp2_with fail
 go_loopw [3] (fun t wr=>∃ k:Nat,k≤n∧t=.int .i64 k∧Hid (tl hs n=tl hs k)∧Hid (wr=w)) (fun t _=>(intOf t).toNat)
 case atStart=>exact ⟨n,Nat.le_refl _,rfl,rfl,by first|exact Hj rfl|exact Hj trivial⟩
 case round =>
  obtain ⟨k,hk,rfl,hR,hW⟩:=hrel;obtain rfl:=hW.out;by_cases h0:k=0
  ·subst h0;have hr:=hR.out;rw [tl] at hr;obtain ⟨A1,hsl,hI,hAA⟩:=HSL.out 0 (by omega);clear hAA;have HR:=Hj hr;have HI:=Hj hI;clear hr hI HSL hR;go_wp2;go_ret;rw [HR.out];exact ⟨A,rfl,HX.out.take (Nat.zero_le _),rfl,fun b o h=>h⟩
  ·obtain ⟨j,rfl⟩:∃ j,k=j+1:=⟨k-1,by omega⟩;obtain ⟨b,o,rfl,hb,hc⟩:=HX.out.2 (by omega);have cj:=hc j (by omega);have hr:=hR.out;rw [tl] at hr;have d1:decide ((0:Int)<(j:Int)+1)=true:=decide_eq_true (by omega);have xw:IntKind.i64.wrap ((j:Int)+1-1)=(j:Int):=by rw [show (j:Int)+1-1=(j:Int) by omega];exact IntWalk.i64_in _ (by omega)
   have xw2:IntKind.i64.wrap (j:Int)=(j:Int):=IntWalk.i64_in _ (by omega);have j1:(0:Int)≤(j:Int):=by omega
   have j2:(j:Int)<(n:Int):=by omega
   obtain ⟨A1,hsl,hI,hAA⟩:=HSL.out (j+1) (by omega);have HAA:=Hj hAA;clear hAA;generalize hs[j]?.getD 0=x at *;clear hc hR;by_cases hx:x=0
   ·subst hx;rw [if_pos rfl] at hr;have HR:=Hj hr;clear hr hI hsl;go_wp2;go_roundw
    case rel=>exact ⟨j,by omega,by go_num,HR.out,by first|exact Hj rfl|exact Hj trivial⟩
    case measure=>simp [intOf]
   ·rw [if_neg hx] at hr;have HR:=Hj hr;have HI:=Hj hI;have hxz:(x == 0)=false:=by simpa using hx
    have ej:((j+1:Nat):Int)=(j:Int)+1:=rfl;rw [ej] at hsl;clear hr hI hx;go_wp2;go_ret;rw [HR.out];exact ⟨A1,rfl,HI.out,rfl,by first|exact HAA.out|exact HAA.out _ _ rfl⟩
theorem rtrim_any (A:Option Addr) (n c:Nat) (hs:List Int) (w:World) (h:IsAt w A n hs) (hnc:n≤c) (hn:n≤1000000000000) :
  Calls Tryz.prog 211 #[.slice A n c] w fun e w'=>∃ A1,e=.returned (.slice A1 (tl hs n) c)∧IsAt w' A1 (tl hs n) (hs.take (tl hs n))∧w'=w :=
 (rtrim_at A n c hs w h hnc hn).mono fun e w' ⟨A1,h1,h2,h3,_⟩=>⟨A1,h1,h2,h3⟩
theorem rat_any (A:Option Addr) (n c i:Nat) (hs:List Int) (w:World) (h:IsAt w A n hs) :
  Calls Tryz.prog 212 #[.slice A n c,.int .i64 i] w fun e w'=>e=.returned (.int .i64 (hs[i]?.getD 0))∧w'=w:=by
 by_cases hi:i<n
 ·obtain ⟨b,o,rfl,hb,hc⟩:=h.2 (by omega);have ci:=hc i hi;have i1:(0:Int)≤(i:Int):=by omega
  have i2:(i:Int)<(n:Int):=by omega
  generalize hs[i]?.getD 0=x at *;clear h hc;go_enter Tryz.func212,Tryz.ntmps212;go_wp2;go_ret;exact ⟨rfl,rfl⟩
 ·have e:hs[i]?.getD 0=0:=by rw [List.getElem?_eq_none (by rw [h.1];omega)];rfl
  have d1:decide ((i:Int)<(n:Int))=false:=by simp;omega
  rw [e];clear e h;go_enter Tryz.func212,Tryz.ntmps212;go_wp2;go_ret;exact ⟨rfl,rfl⟩
def halvesL (l:List Nat):List Int:=l.flatMap fun d:Nat=>[((d:Nat):Int) % 65536,((d:Nat):Int) / 65536]
theorem halvesL_len (l:List Nat):(halvesL l).length=2*l.length:=by
 induction l with
 | nil=>rfl
 | cons d l ih =>
  unfold halvesL at *;rw [List.flatMap_cons,List.length_append,ih,List.length_cons];simp;omega
theorem halvesL_snoc {l:List Nat} {i:Nat} (hi:i<l.length):halvesL (l.take (i+1))=halvesL (l.take i) ++ [((l[i]?.getD 0:Nat):Int) % 65536,((l[i]?.getD 0:Nat):Int) / 65536]:=by
 have e:l.take (i+1)=l.take i ++ [l[i]?.getD 0]:=by rw [List.take_add_one,List.getElem?_eq_getElem hi];rfl
 unfold halvesL;rw [e,List.flatMap_append];simp
theorem two_one {a b:Int}:∀ u∈(#[.int .i64 a,.int .i64 b]:Array Value).toList,u.oneCell'=true:=by
 intro u hu;simp at hu;rcases hu with rfl|rfl<;>rfl
theorem rhalves_any (A:Option Addr) (n c:Nat) (l:List Nat) (w:World) (h:Wat w A n l) (hn:n≤100000000000) :
  Calls Tryz.prog 186 #[.slice A n c] w fun e w'=>∃ A1 c1,e=.returned (.slice A1 (tl (halvesL l) (2*n)) c1)∧IsAt w' A1 (tl (halvesL l) (2*n)) ((halvesL l).take (tl (halvesL l) (2*n)))∧Below w.heap.size w w'∧tl (halvesL l) (2*n)≤c1:=by
 have HW:=Hj h;obtain ⟨ii,hii,hz0,hz1,hz2⟩:=info_parts info_int;have HI:=Hj hii;have HZ0:=Hj hz0;have HZ1:=Hj hz1;have HZ2:=Hj hz2;clear h hii hz0 hz1 hz2;go_enter Tryz.func186,Tryz.ntmps186
 go_wp2_with fail
 go_loopw [3,4] (fun th t wr=>∃ (i:Nat) (Ah:Option Addr) (ch:Nat),i≤n∧t=.int .i64 i∧th=.slice Ah (2*i) ch∧Hid (Below w.heap.size w wr∧Own w.heap.size 3 1 wr Ah (2*i) ch ((halvesL (l.take i)).map (Value.int .i64)))) (fun _ t _=>n-(intOf t).toNat)
 case atStart=>exact ⟨0,none,0,Nat.zero_le _,rfl,rfl,Below.refl _ _,by rw [List.take_zero];exact Own.nil _ _ _ _⟩
 case round =>
  obtain ⟨i,Ah,ch,hi,rfl,rfl,hR⟩:=hrel;by_cases hlt:i<n
  ·obtain ⟨hB,hO⟩:=hR.out;obtain ⟨b,o,rfl,hb,hc⟩:=HW.out.2.2 (by omega);have hci:=hc i hlt;have cx:=(hB.cell (p:=⟨b,o+i,none⟩) hb).trans hci;have hsn:=halvesL_snoc (l:=l) (i:=i) (by rw [HW.out.1];exact hlt);have hd:=HW.out.2.1.get i;generalize l[i]?.getD 0=d at *;have hbr:b<wr.heap.size:=Nat.lt_of_lt_of_le hb hB.size;have q0:=hB;have k1:=(Kp.refl wr).alloc (.cells #[.int .i64 ((d:Int) % 65536),.int .i64 ((d:Int) / 65536)] 3);have q1:Below w.heap.size w (wr.alloc (.cells #[.int .i64 ((d:Int) % 65536),.int .i64 ((d:Int) / 65536)] 3)):=hB.trans (Below.mono k1 hB.size);have o1:=hO.keep k1;have m1:=Blk.new wr 3 #[.int .i64 ((d:Int) % 65536),.int .i64 ((d:Int) / 65536)];have hS:∀ w',Below w.heap.size w w'→w'.cell? ⟨b,o+i,none⟩=some (.int .u32 (d:Int))∧Below w.heap.size w w':=fun w' hk=>⟨(hk.cell (p:=⟨b,o+i,none⟩) hb).trans hci,hk⟩;have HS:=Hj hS;have i1:(0:Int)≤(i:Int):=by omega
   have i2:(i:Int)<(n:Int):=by omega
   have HSN:=Hj hsn;have e1:((d:Int)).tmod 65536=(d:Int) % 65536:=Int.tmod_eq_emod_of_nonneg (by omega);have e2:IntKind.i64.wrap ((d:Int) % 65536)=(d:Int) % 65536:=IntWalk.i64_in _ (by omega);have e3:IntKind.u32.wrap ((d:Int) / 65536)=(d:Int) / 65536:=by rw [IntKind.wrap_u32];omega
   have e4:IntKind.i64.wrap ((d:Int) / 65536)=(d:Int) / 65536:=IntWalk.i64_in _ (by omega);clear hS hc hsn hR cx hci
   go_wp2_with fail
   go_region_held3 (fun w'=>w'.cell? ⟨b,o+i,none⟩=some (.int .u32 (d:Int))∧Below w.heap.size w w')
    (first|exact HS.out _ g1|exact HS.out _ q0.drew|exact HS.out _ q1.drew)
    (first
     | (refine step_append_my (base:=w.heap.size) (e:=3) (size:=1) (bytes:=8) (by rfl) (.tmp 11) (.tmp 24) 199 rfl Tryz.underlying199 HI.out HZ0.out HZ1.out HZ2.out rfl (by decide) (xs:=(halvesL (l.take i)).map (Value.int .i64)) (news:=[.int .i64 ((d:Int) % 65536),.int .i64 ((d:Int) / 65536)]) rfl (by exact o1) rfl (by exact Blk.src m1 rfl two_one) (by simp only [maxLen];omega) (by omega) (Below.size (w:=w) (B:=w.heap.size) (by exact q1.drew)) ?_
        intro B1 cb1 w1 hO1 hb1 hk1;have g1:Below w.heap.size w w1:=Below.trans (by exact q1.drew) hb1;clear hb1 hk1))
   have hfin:Below w.heap.size w w1∧Own w.heap.size 3 1 w1 B1 (2*(i+1)) cb1 ((halvesL (l.take (i+1))).map (Value.int .i64)):=by
    refine ⟨g1,?_⟩;rw [HSN.out,List.map_append,show 2*(i+1)=2*i+2 by omega];exact hO1
   have HF:=Hj hfin;clear hfin g1 hO1;go_wp2;go_roundw
   case rel=>exact ⟨i+1,B1,cb1,by omega,by go_num,by rw [show 2*(i+1)=2*i+2 by omega],HF.out⟩
   case measure=>simp [intOf];omega
  ·obtain rfl:i=n:=by omega
   obtain ⟨hB,hO⟩:=hR.out;rw [List.take_of_length_le (by rw [HW.out.1];exact Nat.le_refl _)] at hO;have hle:2*i≤ch:=by
    rcases hO.2 with ⟨h7,h8⟩|⟨g',cap',cur',h7,_,_,h8,_⟩
    ·omega
    ·simp at h7;omega
   have T:=rtrim_any Ah (2*i) ch (halvesL l) wr hO.ints hle (by omega);have HT:=Hj T;have HB:=Hj hB;clear hR hB hO T
   go_wp2_with fail
   refine HT.out.mono ?_;rintro e w1 ⟨A1,rfl,hI,rfl⟩;have HI2:=Hj hI;clear hI HT;go_wp2;go_ret;exact ⟨A1,ch,rfl,HI2.out,HB.out,Nat.le_trans (tl_le _ _) hle⟩
end Go.Proofs.YtjajigkacccdgaaGreat
