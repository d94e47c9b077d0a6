/-
Lemmas of the walk; no further conditions.
-/
import Derived.Test.YtjajigkacccdgaaGreatTfBG
import Derived.Test.YtjajigkacccdgaaGreatTfBH
set_option linter.unusedVariables false
set_option linter.unusedSimpArgs false
set_option maxRecDepth 100000
set_option maxHeartbeats 16000000
namespace Go.Proofs.YtjajigkacccdgaaGreat
open Go.RowKit
open Wd
def PrR (w1:World) (xs:List Int) (A:Option Addr) (n c:Nat) (wr:World):Prop :=
 Below w1.heap.size w1 wr∧xs.length=n∧Own w1.heap.size 2 1 wr A n c (xs.map (Value.int .i64))
theorem QsAt.qss {w:World} {A:Option Addr} {n:Nat} {ps:List Rat} (h:QsAt w A n ps) (hl:∀ j,j<n→Ls 7 (ps[j]?.getD 0)):QsS 7 w A n ps :=
 ⟨h.1,fun hn=>by
  obtain ⟨b,o,e,hb,hc⟩:=h.2 hn;refine ⟨b,o,e,hb,fun j hj=>?_⟩;obtain ⟨A1,k,c,A2,k',c',h0,h1,h2,h3,hw⟩:=hc j hj;exact ⟨_,_,_,_,_,_,_,_,h0,h1,h2,h3,RQ.qs hw (hl j hj) (by decide)⟩⟩
theorem rq_far {base:Nat} {w:World} {q:Rat} {A A':Option Addr} {k c k' c':Nat} (h:CQ base w q A k c A' k' c') {p:Addr} (hp:p.block<base) (v:Value):RQ (w.setCell p v) q A k c A' k' c' :=
 ⟨h.1,h.2.1,h.2.2.1.setFar h.2.2.2.2.1 hp v,h.2.2.2.1.setFar h.2.2.2.2.2 hp v⟩
theorem pick_bd {os bs:List (List (Int×Int))} (ho:PrB os) (hb:PrB bs):∀ k,k≤(prA os bs).length→-1000000≤(pickV os bs k).1∧(pickV os bs k).1≤1000000
 | 0,_=>by simp [pickV]
 | k+1,hk=>by
  have ih:=pick_bd ho hb k (by omega);have hm:=prA_bd ho hb (getD_mem (d:=0) (show k<(prA os bs).length by omega));rw [pickV];unfold pickS;split
  ·exact hm
  ·exact ih
theorem prS_snoc {ls:List (List (Int×Int))} {k:Nat} (hk:k<ls.length):prS (ls.take (k+1))=prS (ls.take k) ++ prL (ls[k]?.getD []):=by
 unfold prS;rw [List.take_add_one,List.getElem?_eq_getElem hk,List.flatMap_append];simp
theorem prL_snoc {l:List (Int×Int)} {k:Nat} (hk:k<l.length):prL (l.take (k+1))=prL (l.take k) ++ [(l[k]?.getD (0,0)).2]:=by
 unfold prL;rw [List.take_add_one,List.getElem?_eq_getElem hk,List.map_append];simp
theorem prL_len (l:List (Int×Int)):(prL l).length=l.length:=List.length_map ..
theorem prS_len:∀ (ls:List (List (Int×Int))),(∀ l∈ls,l.length≤3)→(prS ls).length≤3*ls.length
 | [],_=>by simp [prS]
 | l :: ls,h=>by
  have h1:=h l (List.mem_cons_self ..);have h2:=prS_len ls fun y hy=>h y (List.mem_cons_of_mem _ hy);have e:prS (l :: ls)=prL l ++ prS ls:=List.flatMap_cons;rw [e,List.length_append,prL_len,List.length_cons];omega
theorem rrun_no (A B:Option Addr) (n c m d:Nat) (os bs:List (List (Int×Int))) (w:World) (h:CsAt w A n os) (h':CsAt w B m bs) (hc0:ckB os bs≠0):Calls Tryz.prog 47 #[.slice A n c,.slice B m d] w fun e w'=>e=.returned (.tuple #[.agg #[.int .i64 0,.int .i64 0,.int .i64 0,.slice none 0 0,.slice none 0 0],.int .i64 (ckB os bs)])∧Below w.heap.size w w':=by
 have T0:=Hj (fun W (hW:Below w.heap.size w W)=>rwrong25_any A B n c m d os bs W (h.below hW) (h'.below hW));have dy:(ckB os bs != 0)=true:=by simpa using hc0
 clear h h' hc0;generalize ckB os bs=x at *;go_enter Tryz.func47,Tryz.ntmps47
 go_wp2_with fail
 have bx8:=Blk.new w 78 #[.int .i64 0,.int .i64 0,.int .i64 0,.slice none 0 0,.slice none 0 0];have hb0:Below w.heap.size w (w.alloc (.cells #[.int .i64 0,.int .i64 0,.int .i64 0,.slice none 0 0,.slice none 0 0] 78)):=(Below.refl _ _).alloc (Nat.le_refl _) _;generalize w.alloc (.cells #[.int .i64 0,.int .i64 0,.int .i64 0,.slice none 0 0,.slice none 0 0] 78)=W0 at *;refine (T0.out W0 hb0).mono ?_;rintro e w1 ⟨rfl,hb1⟩;have hbX:=bx8.below hb1 bx8.lt;have hbB:=hb0.trans (hb1.mono hb0.size);have hY:=hbX.set5 (.int .i64 0) (.int .i64 0) (.int .i64 0) (.slice none 0 0) (.slice none 0 0);have hG:=below_st5 hbB (Nat.le_refl _) (.int .i64 0) (.int .i64 0) (.int .i64 0) (.slice none 0 0) (.slice none 0 0);unfold st5 at hY hG;obtain ⟨⟨_,_,_,_,_⟩,f0,f1,f2,f3,f4⟩:=hbX.five;obtain ⟨⟨d0,d1,d2,d3,d4⟩,-⟩:=hY.five;have HF:=Hj hG;clear hY hG hbX hbB hb1 hb0 bx8 T0;go_wp2;refine bodyPost_ret (v:=.tuple #[.agg #[.int .i64 0,.int .i64 0,.int .i64 0,.slice none 0 0,.slice none 0 0],.int .i64 x]) ?_ rfl ?_
 ·simp [results,Tryz.results47,go_sem,d0,d1,d2,d3,d4]
 ·exact ⟨rfl,HF.out⟩
def RRunP (os bs:List (List (Int×Int))) (w:World) (e:Ending) (w':World):Prop :=
 ∃ g1 g2,e=.returned (.tuple #[.agg #[.int .i64 (zR os bs),.int .i64 (pR os bs),.int .i64 (wR os bs),.slice (some ⟨g1,0,none⟩) os.length os.length,.slice (some ⟨g2,0,none⟩) bs.length bs.length],.int .i64 0])∧IRow w' g1 (xR os bs)∧IRow w' g2 (yR os bs)∧Below w.heap.size w w'
theorem rrun_ok (A B:Option Addr) (n c m d:Nat) (os bs:List (List (Int×Int))) (w:World) (h:CsAt w A n os) (h':CsAt w B m bs) (hc0:ckB os bs=0):Calls Tryz.prog 47 #[.slice A n c,.slice B m d] w (RRunP os bs w):=by
 obtain ⟨l5,l6,k3,k4⟩:=ckB_iff.1 hc0;have T0:=Hj (fun W (hW:Below w.heap.size w W)=>rwrong25_any A B n c m d os bs W (h.below hW) (h'.below hW));rw [hc0] at T0;have hn5:n≤5:=by have:=h.1;omega
 have hm6:m≤6:=by have:=h'.1;omega
 have HC0:=Hj hc0;have HK3:=Hj k3;have HK4:=Hj k4;have HO:=Hj (show ∀ l∈os,l.length≤3∧∀ s∈l,¬ Bad s.1 s.2 from fun l hl=>⟨(chk_ok (k3 l hl)).2.1,(chk_ok (k3 l hl)).2.2.2⟩);have HB:=Hj (show ∀ l∈bs,l.length≤3∧∀ s∈l,¬ Bad s.1 s.2 from fun l hl=>⟨(chk_ok (k4 l hl)).2.1,(chk_ok (k4 l hl)).2.2.2⟩);obtain ⟨ii,hii,hz0,hz1,hz2⟩:=info_parts info_int64;have HI:=Hj hii;have HZ0:=Hj hz0;have HZ1:=Hj hz1;have HZ2:=Hj hz2;have HX:=Hj h;have HY:=Hj h';clear h h' hc0 l5 l6 k3 k4 hii hz0 hz1 hz2;unfold RRunP;go_enter Tryz.func47,Tryz.ntmps47
 go_wp2_with fail
 have bx8:=Blk.new w 78 #[.int .i64 0,.int .i64 0,.int .i64 0,.slice none 0 0,.slice none 0 0];have hb0:Below w.heap.size w (w.alloc (.cells #[.int .i64 0,.int .i64 0,.int .i64 0,.slice none 0 0,.slice none 0 0] 78)):=(Below.refl _ _).alloc (Nat.le_refl _) _;generalize w.alloc (.cells #[.int .i64 0,.int .i64 0,.int .i64 0,.slice none 0 0,.slice none 0 0] 78)=W0 at *;refine (T0.out W0 hb0).mono ?_;rintro e w1 ⟨rfl,hb1⟩;have HX8:=Hj (bx8.below hb1 bx8.lt);have HB1:=Hj (hb0.trans (hb1.mono hb0.size));clear bx8 hb0 hb1 T0
 go_wp2_with fail
 have HP0:=Hj (show PrR w1 [0] (some ⟨w1.heap.size,0,none⟩) 1 1 (w1.alloc (.cells #[.int .i64 0] 2)) from
  ⟨(Kp.refl w1).alloc _,rfl,rfl,Or.inr ⟨w1.heap.size,1,#[.int .i64 0],rfl,Nat.le_refl _,Blk.new w1 2 #[.int .i64 0],Nat.le_refl _,by simp only [maxLen];omega,rfl,by simp⟩⟩)
 have HPL:=Hj (show ([0]:List Int).length≤20 by decide)
 go_wp2_with fail
 obtain ⟨A7,hA7⟩:∃ x:Option Addr,x=some ⟨w1.heap.size,0,none⟩:=⟨_,rfl⟩;obtain ⟨l7,hl7⟩:∃ x:Nat,x=1:=⟨_,rfl⟩;obtain ⟨c7,hc7⟩:∃ x:Nat,x=1:=⟨_,rfl⟩;generalize w1.alloc (.cells #[.int .i64 0] 2)=V0 at *;rw [← hA7] at HP0 ⊢;have HP0:=Hj (show PrR w1 [0] A7 l7 c7 V0 from by rw [hl7,hc7];exact HP0.out);have HV7:=Hj (show (Value.slice (some ⟨w1.heap.size,0,none⟩) 1 1)=.slice A7 l7 c7 by rw [hl7,hc7,hA7]);rw [hA7];clear hA7 hl7 hc7
 go_loopw [7,8] (fun th t wr=>∃ (k:Nat) (Ah:Option Addr) (ln ch:Nat),k≤n∧th=.slice Ah ln ch∧t=.int .i64 (k:Int)∧Hid (PrR w1 ([0] ++ prS (os.take k)) Ah ln ch wr)) (fun _ t _=>n-(intOf t).toNat)
 case atStart=>exact ⟨0,A7,l7,c7,Nat.zero_le _,by first|rfl|exact HV7.out,rfl,Hj (by simpa [prS] using HP0.out)⟩
 case round =>
  clear HP0;obtain ⟨k,Ah,ln,ch,hk,rfl,rfl,HR⟩:=hrel;obtain ⟨wo,rfl⟩:∃ u,u=wr:=⟨_,rfl⟩;by_cases hlt:k<n
  ·obtain ⟨b1,o1,rfl,hb1,hc1⟩:=HX.out.2 (by omega);obtain ⟨A2,n2,c2,hc2,hst2⟩:=hc1 k hlt;have hwo:=HB1.out.trans (Below.mono HR.out.1 HB1.out.size);have hcl:=(hwo.cell (p:=⟨b1,o1+k,none⟩) hb1).trans hc2;have hkl:k<os.length:=by have:=HX.out.1;omega
   have hg2:=HO.out _ (getD_mem (d:=([]:List (Int×Int))) hkl);have hsk:=prS_snoc hkl;have hn2:n2≤3:=by rw [← hst2.1];exact hg2.1
   have hxl2:([0] ++ prS (os.take k)).length≤100:=by
    have:=prS_len (os.take k) fun l hl=>(HO.out l (List.mem_of_mem_take hl)).1;have h9:=List.length_take_le k os;have h7:=HPL.out;rw [List.length_append];omega
   generalize os[k]?.getD []=l at *;have HST2:=Hj hst2;have HSK:=Hj hsk;generalize hxs1:[0] ++ prS (os.take k)=xs1 at *;have HX1:=Hj hxs1;have k1:(0:Int)≤(k:Int):=Int.natCast_nonneg _;have k2:(k:Int)<(n:Int):=by exact_mod_cast hlt
   have HC2:=Hj (And.intro hb1 hc2);clear hc1 hst2 hkl hg2 hsk hxs1 hwo hb1 hc2
   go_wp2_with fail
   go_loopw [7,9] (fun th t wr=>∃ (j:Nat) (Ah:Option Addr) (ln ch:Nat),j≤n2∧th=.slice Ah ln ch∧t=.int .i64 (j:Int)∧Hid (PrR w1 (xs1 ++ prL (l.take j)) Ah ln ch wr)) (fun _ t _=>n2-(intOf t).toNat)
   case atStart=>exact ⟨0,Ah,ln,ch,Nat.zero_le _,rfl,rfl,Hj (by simpa [prL] using HR.out)⟩
   case round =>
    clear HR hcl;obtain ⟨j,Ai,li,ci,hj,rfl,rfl,HR⟩:=hrel;have hwr:=HB1.out.trans (Below.mono HR.out.1 HB1.out.size);have hcl:=(hwr.cell (p:=⟨b1,o1+k,none⟩) HC2.out.1).trans HC2.out.2;by_cases hlj:j<n2
    ·obtain ⟨b3,o3,rfl,hb3,hc3⟩:=HST2.out.2.2 (by omega);obtain ⟨-,y1⟩:=hc3 j hlj;replace y1:=(hwr.cell (p:=⟨b3,o3+j*2+1,none⟩) hb3).trans y1;have hsj:=prL_snoc (l:=l) (k:=j) (by rw [HST2.out.1];exact hlj);generalize (l[j]?.getD (0,0)).2=p at *;have hli:li≤200:=by
      have h1:=HR.out.2.1;have h9:=List.length_take_le j l;rw [List.length_append,prL_len] at h1;omega
     have hxsn:xs1 ++ prL (l.take (j+1))=(xs1 ++ prL (l.take j)) ++ [p]:=by rw [hsj,List.append_assoc]
     generalize xs1 ++ prL (l.take j)=xs2 at *;have HXSN:=Hj hxsn;have q1:=(Kp.refl wr).alloc (.cells #[.int .i64 p] 2);have o2:=HR.out.2.2.keep q1;have m2:=Blk.new wr 2 #[.int .i64 p];have hs0:w1.heap.size≤(wr.alloc (.cells #[.int .i64 p] 2)).heap.size:=Nat.le_trans (Below.size HR.out.1) (Below.size q1);have HBW:=Hj (show Kp w1 (wr.alloc (.cells #[.int .i64 p] 2)) from Kp.trans HR.out.1 q1);have HLN:=Hj HR.out.2.1;have j1:(0:Int)≤(j:Int):=Int.natCast_nonneg _;have j2:(j:Int)<(n2:Int):=by exact_mod_cast hlj
     clear hc3 hsj hxsn hwr q1 HR hb3
     go_wp2_with (first
      | (at_builtin;refine wpList_append_my rfl (base:=w1.heap.size) (e:=2) (size:=1) (bytes:=8) (.tmp 46) (.tmp 55) 62 rfl Tryz.underlying62 HI.out HZ0.out HZ1.out HZ2.out rfl (by decide) (xs:=xs2.map (Value.int .i64)) (news:=[.int .i64 p]) rfl (by exact o2) rfl (by exact Blk.src m2 rfl (by simp [Value.oneCell'])) (by simp only [maxLen];omega) (by omega) (by exact hs0) ?_
         intro B1 cb1 w3 hO1 hbb1 hk1;have HF:=Hj (show PrR w1 (xs2 ++ [p]) B1 (li+1) cb1 w3 from ⟨Below.trans HBW.out hbb1,by rw [List.length_append,HLN.out];rfl,by rw [List.map_append];exact hO1⟩);clear hO1 hbb1 hk1))
     clear o2 m2 hs0;go_wp2;go_roundw
     case rel=>exact ⟨j+1,B1,li+1,cb1,by omega,rfl,by first|rfl|go_num,by rw [HXSN.out];exact HF.out⟩
     case measure=>simp [intOf];omega
    ·obtain rfl:n2=j:=by omega
     have hfin:PrR w1 ([0] ++ prS (os.take (k+1))) Ai li ci wr:=by
      have e:l.take n2=l:=List.take_of_length_le (by rw [HST2.out.1];exact Nat.le_refl _);have h:=HR.out;rw [e,← HX1.out,List.append_assoc,← HSK.out] at h;exact h
     have HF:=Hj hfin;clear hfin HR hwr;go_wp2;go_roundw
     case rel=>exact ⟨k+1,Ai,li,ci,by omega,rfl,by first|rfl|go_num,HF.out⟩
     case measure=>simp [intOf];omega
  ·obtain rfl:n=k:=by omega
   have HPF:=Hj (show PrR w1 ([0] ++ prS os) Ah ln ch wo from by
    have e:os.take n=os:=List.take_of_length_le (by have:=HX.out.1;omega);have h:=HR.out;rw [e] at h;exact h)
   clear HR hlt;have HP0:=Hj (show PrR w1 ([0] ++ prS os) Ah ln ch wo from HPF.out);generalize hx0:[0] ++ prS os=xs0 at *;have HX0:=Hj hx0;have HPL:=Hj (show xs0.length≤20 from by
    have:=prS_len os fun l hl=>(HO.out l hl).1;have h8:=HX.out.1;rw [← hx0,List.length_append,List.length_singleton];omega)
   clear hx0 HPF;obtain ⟨A7,hA7⟩:∃ x,x=Ah:=⟨_,rfl⟩;obtain ⟨l7,hl7⟩:∃ x,x=ln:=⟨_,rfl⟩;obtain ⟨c7,hc7⟩:∃ x,x=ch:=⟨_,rfl⟩;rw [← hA7,← hl7,← hc7] at HP0 ⊢;have HV7:=Hj (rfl:(Value.slice A7 l7 c7)=.slice A7 l7 c7);clear hA7 hl7 hc7
   go_wp2_with fail
   go_loopw [7,10] (fun th t wr=>∃ (k:Nat) (Ah:Option Addr) (ln ch:Nat),k≤m∧th=.slice Ah ln ch∧t=.int .i64 (k:Int)∧Hid (PrR w1 (xs0 ++ prS (bs.take k)) Ah ln ch wr)) (fun _ t _=>m-(intOf t).toNat)
   case atStart=>exact ⟨0,A7,l7,c7,Nat.zero_le _,by first|rfl|exact HV7.out,rfl,Hj (by simpa [prS] using HP0.out)⟩
   case round =>
    clear HP0;obtain ⟨k,Ah,ln,ch,hk,rfl,rfl,HR⟩:=hrel;obtain ⟨wo,rfl⟩:∃ u,u=wr:=⟨_,rfl⟩;by_cases hlt:k<m
    ·obtain ⟨b1,o1,rfl,hb1,hc1⟩:=HY.out.2 (by omega);obtain ⟨A2,n2,c2,hc2,hst2⟩:=hc1 k hlt;have hwo:=HB1.out.trans (Below.mono HR.out.1 HB1.out.size);have hcl:=(hwo.cell (p:=⟨b1,o1+k,none⟩) hb1).trans hc2;have hkl:k<bs.length:=by have:=HY.out.1;omega
     have hg2:=HB.out _ (getD_mem (d:=([]:List (Int×Int))) hkl);have hsk:=prS_snoc hkl;have hn2:n2≤3:=by rw [← hst2.1];exact hg2.1
     have hxl2:(xs0 ++ prS (bs.take k)).length≤100:=by
      have:=prS_len (bs.take k) fun l hl=>(HB.out l (List.mem_of_mem_take hl)).1;have h9:=List.length_take_le k bs;have h7:=HPL.out;rw [List.length_append];omega
     generalize bs[k]?.getD []=l at *;have HST2:=Hj hst2;have HSK:=Hj hsk;generalize hxs1:xs0 ++ prS (bs.take k)=xs1 at *;have HX1:=Hj hxs1;have k1:(0:Int)≤(k:Int):=Int.natCast_nonneg _;have k2:(k:Int)<(m:Int):=by exact_mod_cast hlt
     have HC2:=Hj (And.intro hb1 hc2);clear hc1 hst2 hkl hg2 hsk hxs1 hwo hb1 hc2
     go_wp2_with fail
     go_loopw [7,11] (fun th t wr=>∃ (j:Nat) (Ah:Option Addr) (ln ch:Nat),j≤n2∧th=.slice Ah ln ch∧t=.int .i64 (j:Int)∧Hid (PrR w1 (xs1 ++ prL (l.take j)) Ah ln ch wr)) (fun _ t _=>n2-(intOf t).toNat)
     case atStart=>exact ⟨0,Ah,ln,ch,Nat.zero_le _,rfl,rfl,Hj (by simpa [prL] using HR.out)⟩
     case round =>
      clear HR hcl;obtain ⟨j,Ai,li,ci,hj,rfl,rfl,HR⟩:=hrel;have hwr:=HB1.out.trans (Below.mono HR.out.1 HB1.out.size);have hcl:=(hwr.cell (p:=⟨b1,o1+k,none⟩) HC2.out.1).trans HC2.out.2;by_cases hlj:j<n2
      ·obtain ⟨b3,o3,rfl,hb3,hc3⟩:=HST2.out.2.2 (by omega);obtain ⟨-,y1⟩:=hc3 j hlj;replace y1:=(hwr.cell (p:=⟨b3,o3+j*2+1,none⟩) hb3).trans y1;have hsj:=prL_snoc (l:=l) (k:=j) (by rw [HST2.out.1];exact hlj);generalize (l[j]?.getD (0,0)).2=p at *;have hli:li≤200:=by
        have h1:=HR.out.2.1;have h9:=List.length_take_le j l;rw [List.length_append,prL_len] at h1;omega
       have hxsn:xs1 ++ prL (l.take (j+1))=(xs1 ++ prL (l.take j)) ++ [p]:=by rw [hsj,List.append_assoc]
       generalize xs1 ++ prL (l.take j)=xs2 at *;have HXSN:=Hj hxsn;have q1:=(Kp.refl wr).alloc (.cells #[.int .i64 p] 2);have o2:=HR.out.2.2.keep q1;have m2:=Blk.new wr 2 #[.int .i64 p];have hs0:w1.heap.size≤(wr.alloc (.cells #[.int .i64 p] 2)).heap.size:=Nat.le_trans (Below.size HR.out.1) (Below.size q1);have HBW:=Hj (show Kp w1 (wr.alloc (.cells #[.int .i64 p] 2)) from Kp.trans HR.out.1 q1);have HLN:=Hj HR.out.2.1;have j1:(0:Int)≤(j:Int):=Int.natCast_nonneg _;have j2:(j:Int)<(n2:Int):=by exact_mod_cast hlj
       clear hc3 hsj hxsn hwr q1 HR hb3
       go_wp2_with (first
        | (at_builtin;refine wpList_append_my rfl (base:=w1.heap.size) (e:=2) (size:=1) (bytes:=8) (.tmp 72) (.tmp 81) 62 rfl Tryz.underlying62 HI.out HZ0.out HZ1.out HZ2.out rfl (by decide) (xs:=xs2.map (Value.int .i64)) (news:=[.int .i64 p]) rfl (by exact o2) rfl (by exact Blk.src m2 rfl (by simp [Value.oneCell'])) (by simp only [maxLen];omega) (by omega) (by exact hs0) ?_
           intro B1 cb1 w3 hO1 hbb1 hk1;have HF:=Hj (show PrR w1 (xs2 ++ [p]) B1 (li+1) cb1 w3 from ⟨Below.trans HBW.out hbb1,by rw [List.length_append,HLN.out];rfl,by rw [List.map_append];exact hO1⟩);clear hO1 hbb1 hk1))
       clear o2 m2 hs0;go_wp2;go_roundw
       case rel=>exact ⟨j+1,B1,li+1,cb1,by omega,rfl,by first|rfl|go_num,by rw [HXSN.out];exact HF.out⟩
       case measure=>simp [intOf];omega
      ·obtain rfl:n2=j:=by omega
       have hfin:PrR w1 (xs0 ++ prS (bs.take (k+1))) Ai li ci wr:=by
        have e:l.take n2=l:=List.take_of_length_le (by rw [HST2.out.1];exact Nat.le_refl _);have h:=HR.out;rw [e,← HX1.out,List.append_assoc,← HSK.out] at h;exact h
       have HF:=Hj hfin;clear hfin HR hwr;go_wp2;go_roundw
       case rel=>exact ⟨k+1,Ai,li,ci,by omega,rfl,by first|rfl|go_num,HF.out⟩
       case measure=>simp [intOf];omega
    ·obtain rfl:m=k:=by omega
     have HPF:=Hj (show PrR w1 (xs0 ++ prS bs) Ah ln ch wo from by
      have e:bs.take m=bs:=List.take_of_length_le (by have:=HY.out.1;omega);have h:=HR.out;rw [e] at h;exact h)
     clear HR hlt;have hpr:=HPF.out;rw [← HX0.out] at hpr;have hpe:([0] ++ prS os) ++ prS bs=prA os bs:=by unfold prA;simp
     rw [hpe] at hpr;have HPR:=Hj hpr.2.2.ints;have HLN:=Hj hpr.2.1;have HKO:=Hj hpr.1;have hl20:ln≤100:=by
      have h1:=prS_len os fun l hl=>(HO.out l hl).1;have h2:=prS_len bs fun l hl=>(HB.out l hl).1;have h3:=HX.out.1;have h4:=HY.out.1;have h5:=hpr.2.1;unfold prA at h5;rw [List.length_cons,List.length_append] at h5;omega
     have hww:=HB1.out.trans (Below.mono hpr.1 HB1.out.size);have HWO:=Hj hww;have HKV:=Hj (show Kp wo (wo.alloc (.cells #[.int .i64 0,.int .i64 0,.int .i64 0,.slice none 0 0,.slice none 0 0] 78)) from (Kp.refl wo).alloc _);have HBX:=Hj (Blk.new wo 78 #[.int .i64 0,.int .i64 0,.int .i64 0,.slice none 0 0,.slice none 0 0]);clear hpr hpe HPF HX0 HPL hww
     go_wp2_with fail
     generalize wo.alloc (.cells #[.int .i64 0,.int .i64 0,.int .i64 0,.slice none 0 0,.slice none 0 0] 78)=V at *;have HGB:=Hj (show w1.heap.size≤wo.heap.size from Below.size HKO.out);generalize hge:wo.heap.size=gb at HBX HGB ⊢;have HGE:=Hj hge;clear hge;have HGW:=Hj (show w.heap.size<gb from Nat.lt_of_lt_of_le HX8.out.lt HGB.out)
     go_loopw [13,14] (fun tf t wr=>∃ (i:Nat) (q:Int) (fd:Bool),i≤ln∧tf=.bool fd∧t=.int .i64 (i:Int)∧Hid (pickV os bs i=(q,fd))∧Hid (Below gb V wr∧Blk wr gb 78 #[.int .i64 0,.int .i64 q,.int .i64 0,.slice none 0 0,.slice none 0 0])) (fun _ t _=>ln-(intOf t).toNat)
     case atStart=>exact ⟨0,0,false,Nat.zero_le _,rfl,rfl,rfl,Below.refl _ _,HBX.out⟩
     case round =>
      obtain ⟨i,q,fd,hi,rfl,rfl,HQV,HR⟩:=hrel;have hkw:Below wo.heap.size wo wr:=Below.trans (show Below wo.heap.size wo V from HKV.out) (by rw [HGE.out];exact HR.out.1);have hwr:=HWO.out.trans (hkw.mono HWO.out.size);have HQB:=Hj (show -1000000≤q∧q≤1000000 from by
       have h:=pick_bd (PrB.of HK3.out) (PrB.of HK4.out) i (by rw [HLN.out];omega);rw [HQV.out] at h;exact h)
      by_cases hlt:i<ln
      ·obtain ⟨b,o,rfl,hb,hc⟩:=(HPR.out.below hkw).2 (by omega);have y0:=hc i hlt;have hpb:=prA_bd (PrB.of HK3.out) (PrB.of HK4.out) (getD_mem (d:=0) (show i<(prA os bs).length by rw [HLN.out];exact hlt));have hps:pickV os bs (i+1)=pickS os bs (q,fd) ((prA os bs)[i]?.getD 0):=by rw [pickV,HQV.out]
       generalize (prA os bs)[i]?.getD 0=p at *;have HPS:=Hj hps;have hl3:Ls 7 ((p:Int):Rat):=(ls_int (Nat.le_refl 3) (by omega)).mono (by decide);have TI:=Hj (fun W=>rint_any p W (by omega) (by omega));have TC:=Hj (fun (W:World) (hW:Below w.heap.size w W) (R R':Option Addr) (k e k' e':Nat) (hh:RQ W ((p:Int):Rat) R k e R' k' e')=>rclears25_in A B n c m d os bs _ _ R R' k e k' e' _ W (HX.out.below hW) (HY.out.below hW) (hh.qs hl3 (by decide)) HK3.out HK4.out (by omega) (by omega));generalize hbb:balB os bs ((p:Int):Rat)=bb at *;have HBB:=Hj hbb;have HWR:=Hj hwr;have i1:(0:Int)≤(i:Int):=Int.natCast_nonneg _;have i2:(i:Int)<(ln:Int):=by exact_mod_cast hlt
       clear hc hps hl3 hbb hwr hkw hb
       go_wp2_with fail
       refine (TI.out wr).mono ?_;rintro e v1 ⟨N1,n1,n2,N2,n3,n4,rfl,hk9,hj9,hW9,hX9,-,-,hb1⟩;have hrq:RQ v1 ((p:Int):Rat) N1 n1 n2 N2 n3 n4:=⟨hk9,hj9,hW9,hX9⟩;have hk1:Kp wr v1:=hb1;clear hk9 hj9 hW9 hX9 hb1
       go_wp2_with fail
       refine (TC.out v1 (HWR.out.trans (Below.mono hk1 HWR.out.size)) _ _ _ _ _ _ hrq).mono ?_;rintro e v2 ⟨rfl,hb2⟩;have hv2:Kp wr v2:=Kp.trans hk1 hb2;have hbk2:=Kp.blk hv2 HR.out.2;have hr2:Below gb V v2:=HR.out.1.trans (Below.mono hv2 (Nat.le_of_lt HR.out.2.lt));obtain ⟨⟨c0,c1,c2,c3,c4⟩,f0,f1,f2,f3,f4⟩:=hbk2.five;have hpb1:=hpb.1;have hpb2:=hpb.2;clear hrq hk1 hb2 TI TC hpb y0 HR HWR;cases bb
       ·have hps:pickV os bs (i+1)=(q,fd):=by
         rw [HPS.out];unfold pickS;rw [if_neg (by rw [HBB.out];simp)]
        have HPN:=Hj hps;have HF:=Hj (And.intro hr2 hbk2);clear hps hr2 hbk2 hv2 c0 c1 c2 c3 c4 f0 f1 f2 f3 f4;go_wp2;go_roundw
        case rel=>exact ⟨i+1,q,fd,by omega,rfl,by first|rfl|go_num,HPN.out,HF.out⟩
        case measure=>simp [intOf];omega
       ·have HST:=Hj (show Below gb V (v2.setCell ⟨gb,1,none⟩ (.int .i64 p))∧Blk (v2.setCell ⟨gb,1,none⟩ (.int .i64 p)) gb 78 #[.int .i64 0,.int .i64 p,.int .i64 0,.slice none 0 0,.slice none 0 0] from ⟨hr2.setCell (p:=⟨gb,1,none⟩) (Nat.le_refl _) _,hbk2.set 1 (.int .i64 p)⟩);cases fd
        ·have hps:pickV os bs (i+1)=(p,true):=by
          rw [HPS.out];unfold pickS;rw [if_pos ⟨HBB.out,Or.inl rfl⟩]
         have HPN:=Hj hps;clear hps hr2 hbk2 hv2;go_wp2;go_roundw
         case rel=>exact ⟨i+1,p,true,by omega,rfl,by first|rfl|go_num,HPN.out,HST.out⟩
         case measure=>simp [intOf];omega
        ·have hqb:=HQB.out;have xp:IntKind.i64.wrap (-p) = -p:=IntWalk.i64_in _ (by omega);have xq:IntKind.i64.wrap (-q) = -q:=IntWalk.i64_in _ (by omega);obtain ⟨ap,hap⟩:∃ x,x=absI p:=⟨_,rfl⟩;obtain ⟨aq,haq⟩:∃ x,x=absI q:=⟨_,rfl⟩;have ep:=absI_or p;have eq:=absI_or q;have a1:max p (-p)=ap:=by omega
         have a2:(if p < -p then -p else p)=ap:=by split<;>omega
         have a3:(if -p<p then p else -p)=ap:=by split<;>omega
         have a4:(if p≤-p then -p else p)=ap:=by split<;>omega
         have b1:max q (-q)=aq:=by omega
         have b2:(if q < -q then -q else q)=aq:=by split<;>omega
         have b3:(if -q<q then q else -q)=aq:=by split<;>omega
         have b4:(if q≤-q then -q else q)=aq:=by split<;>omega
         have HAP:=Hj (And.intro hap haq);clear hap haq ep eq hqb;by_cases hcb:ap<aq
         ·have hcd:decide (ap<aq)=true:=decide_eq_true hcb;have hps:pickV os bs (i+1)=(p,true):=by
           rw [HPS.out];unfold pickS;rw [if_pos ⟨HBB.out,Or.inr (by rw [← HAP.out.1,← HAP.out.2];exact hcb)⟩]
          have HPN:=Hj hps;clear hps hr2 hbk2 hcb hv2;go_wp2;go_roundw
          case rel=>exact ⟨i+1,p,true,by omega,rfl,by first|rfl|go_num,HPN.out,HST.out⟩
          case measure=>simp [intOf];omega
         ·have hcd:decide (ap<aq)=false:=decide_eq_false hcb;have hps:pickV os bs (i+1)=(q,true):=by
           rw [HPS.out];unfold pickS;rw [if_neg (by rw [← HAP.out.1,← HAP.out.2];simp [hcb])]
          have HPN:=Hj hps;have HF:=Hj (And.intro hr2 hbk2);clear hps hr2 hbk2 hcb hv2;go_wp2;go_roundw
          case rel=>exact ⟨i+1,q,true,by omega,rfl,by first|rfl|go_num,HPN.out,HF.out⟩
          case measure=>simp [intOf];omega
      ·obtain rfl:ln=i:=by omega
       have HPQ:=Hj (show q=pR os bs from by
        unfold pR;rw [HLN.out,HQV.out])
       have HWV:=Hj (HWO.out.trans (Below.mono HKV.out HWO.out.size));have HWR:=Hj hwr;have hqb:=HQB.out;have hl3:Ls 7 ((q:Int):Rat):=(ls_int (Nat.le_refl 3) (by omega)).mono (by decide);have HL3:=Hj hl3;have TI:=Hj (fun W=>rint_any q W (by omega) (by omega));have TW:=Hj (fun (W:World) (hW:Below w.heap.size w W) (R R':Option Addr) (k e k' e':Nat) (hh:RQ W ((q:Int):Rat) R k e R' k' e')=>rwants25_any A B n c m d os bs _ _ R R' k e k' e' _ W (HX.out.below hW) (HY.out.below hW) (hh.qs hl3 (by decide)) HK3.out HK4.out (by omega) (by omega));obtain ⟨⟨c0,c1,c2,c3,c4⟩,-⟩:=HR.out.2.five;generalize hqr:((q:Int):Rat)=qr at *;have HQR:=Hj hqr;clear hl3 hqb hwr hkw HQV hqr
       go_wp2_with fail
       refine (TI.out wr).mono ?_;rintro e v1 ⟨P1,u1,u2,P2,u3,u4,rfl,hk9,hj9,hW9,hX9,hF9,hG9,hb1⟩;have hrq:CQ wr.heap.size v1 qr P1 u1 u2 P2 u3 u4:=⟨hk9,hj9,hW9,hX9,hF9,hG9⟩;have kv:=(Kp.refl v1).alloc (.cells #[.bool (decide (qr.num<0)),.slice P1 u1 u2,.bool false,.slice P2 u3 u4] 42);have hk1:Kp wr (v1.alloc (.cells #[.bool (decide (qr.num<0)),.slice P1 u1 u2,.bool false,.slice P2 u3 u4] 42)):=Kp.trans hb1 kv;have HV3:=Hj (And.intro (Blk.new v1 42 #[.bool (decide (qr.num<0)),.slice P1 u1 u2,.bool false,.slice P2 u3 u4]) (And.intro (hrq.below kv) (And.intro (Kp.blk hk1 HR.out.2) (And.intro (HR.out.1.trans (Below.mono hk1 (Nat.le_of_lt HR.out.2.lt))) (And.intro (HWR.out.trans (Below.mono hk1 HWR.out.size)) (Nat.lt_of_lt_of_le HR.out.2.lt (Below.size hb1)))))));have HGW2:=Hj (show gb<wr.heap.size from HR.out.2.lt);clear hk9 hj9 hW9 hX9 hF9 hG9 hb1 hrq kv hk1 c0 c1 c2 c3 c4 HR HWR
       go_wp2_with fail
       generalize v1.alloc (.cells #[.bool (decide (qr.num<0)),.slice P1 u1 u2,.bool false,.slice P2 u3 u4] 42)=V3 at *;generalize v1.heap.size=g16 at *;refine (TW.out V3 HV3.out.2.2.2.2.1 _ _ _ _ _ _ HV3.out.2.1.wq).mono ?_;rintro e v4 ⟨rfl,hb4⟩;have hbk:=HV3.out.2.2.1.below hb4 HV3.out.2.2.1.lt;obtain ⟨⟨_,_,_,_,_⟩,f0,-,-,-,-⟩:=hbk.five;have hwa:=ws_bd HK3.out (-1) qr;have hwb:=ws_bd HK4.out 1 qr;have hso:os.length≤5:=by have:=HX.out.1;omega
       have hsb:bs.length≤6:=by have:=HY.out.1;omega
       obtain ⟨zz,hzz⟩:∃ x,x=zR os bs:=⟨_,rfl⟩;have hzm:zz=max (wsL (-1) qr os) (wsL 1 qr bs):=by rw [hzz,← HQR.out,HPQ.out];rfl
       have HZZ:=Hj hzz;have HAE:=Hj (rfl:wsL (-1) qr os=wsL (-1) qr os);generalize ha:wsL (-1) qr os=a at *;generalize hcc:wsL 1 qr bs=cc at *;have HA:=Hj ha;have HCC:=Hj hcc;have m1:max a cc=zz:=hzm.symm;have m2:(if a<cc then cc else a)=zz:=by split<;>omega
       have m3:(if cc<a then a else cc)=zz:=by split<;>omega
       have m4:(if a≤cc then cc else a)=zz:=by split<;>omega
       have HZB:=Hj (show 0≤zz-a∧zz-a≤1000000000∧0≤zz-cc∧zz-cc≤1000000000∧0≤zz∧zz≤1000000000∧0≤a∧0≤cc from by omega);have hkv:Kp V3 v4:=hb4;have hne:g16≠gb:=by have:=HV3.out.2.2.2.2.2;omega
       have HW5:=Hj (show Blk (v4.setCell ⟨gb,0,none⟩ (.int .i64 zz)) gb 78 #[.int .i64 zz,.int .i64 q,.int .i64 0,.slice none 0 0,.slice none 0 0]∧Blk (v4.setCell ⟨gb,0,none⟩ (.int .i64 zz)) g16 42 #[.bool (decide (qr.num<0)),.slice P1 u1 u2,.bool false,.slice P2 u3 u4]∧RQ (v4.setCell ⟨gb,0,none⟩ (.int .i64 zz)) qr P1 u1 u2 P2 u3 u4∧Below gb V (v4.setCell ⟨gb,0,none⟩ (.int .i64 zz)) from
        ⟨hbk.set 0 _,Blk.far (Kp.blk hkv HV3.out.1) hne _,rq_far (HV3.out.2.1.below hkv) (p:=⟨gb,0,none⟩) HGW2.out _,(HV3.out.2.2.2.1.trans (Below.mono hkv (Nat.le_of_lt HV3.out.2.2.1.lt))).setCell (p:=⟨gb,0,none⟩) (Nat.le_refl _) _⟩)
       clear hb4 hkv hbk hne hwa hwb hso hsb hzz hzm ha hcc HAE TI TW HV3
       go_wp2_with fail
       generalize v4.setCell ⟨gb,0,none⟩ (.int .i64 zz)=W5 at *;have eX:owL (fun i=>wlL (-1) qr (os[i]?.getD [])) (fun i=>wlM (-1) qr (os[i]?.getD [])) n (zz-a)=xR os bs:=by
        rw [← HA.out,HZZ.out,← HQR.out,HPQ.out,← HX.out.1]
        rfl
       have eY:owL (fun i=>wlL 1 qr (bs[i]?.getD [])) (fun i=>wlM 1 qr (bs[i]?.getD [])) m (zz-cc)=yR os bs:=by
        rw [← HCC.out,HZZ.out,← HQR.out,HPQ.out,← HY.out.1]
        rfl
       have hw5:=HWV.out.trans (HW5.out.2.2.2.mono (Nat.le_of_lt HGW.out));have hzb:=HZB.out;have TO:=Hj (fun W (hW:Kp W5 W)=>rown_o A n c os _ _ P1 P2 u1 u2 u3 u4 qr (zz-a) W (HX.out.below (hw5.trans (Below.mono hW hw5.size))) ((HW5.out.2.2.1.below hW).qs HL3.out (by decide)) HK3.out (by omega) (by omega) (by omega));have TB:=Hj (fun W (hW:Kp W5 W)=>rown_b B m d bs _ _ P1 P2 u1 u2 u3 u4 qr (zz-cc) W (HY.out.below (hw5.trans (Below.mono hW hw5.size))) ((HW5.out.2.2.1.below hW).qs HL3.out (by decide)) HK4.out (by omega) (by omega) (by omega));rw [eX] at TO;rw [eY] at TB;have xa:IntKind.i64.wrap (zz-a)=zz-a:=IntWalk.i64_in _ (by omega);have xb:IntKind.i64.wrap (zz-cc)=zz-cc:=IntWalk.i64_in _ (by omega);clear eX eY hw5 hzb;refine held_front (W:=W5) (C:=fun w'=>w'.cell? ⟨g16,0,none⟩=some (.bool (decide (qr.num<0)))∧w'.cell? ⟨g16,1,none⟩=some (.slice P1 u1 u2)∧w'.cell? ⟨g16,2,none⟩=some (.bool false)∧w'.cell? ⟨g16,3,none⟩=some (.slice P2 u3 u4)∧w'.cell? ⟨gb,0,none⟩=some (.int .i64 zz)) 15 3 (fun w' hk=>⟨(Kp.blk hk HW5.out.2.1).cell 0,(Kp.blk hk HW5.out.2.1).cell 1,(Kp.blk hk HW5.out.2.1).cell 2,(Kp.blk hk HW5.out.2.1).cell 3,(Kp.blk hk HW5.out.1).cell 0⟩) (Kp.refl W5) (fun HS hH0=>?_);refine tq 0 ?_;refine tq 1 ?_;refine tq 2 ?_;refine tq 3 ?_;refine tq 4 ?_;refine tq 5 ?_;refine tq 7 ?_;refine tq 8 ?_;refine tq 9 ?_;refine tq 10 ?_;refine tq 11 ?_;refine tq 12 ?_;refine rd1 6 fun K hK=>?_
       (try simp only [p1,p2,p3])
       go_simp;have hk:=And.right ‹_∧Kp W5 _›;refine (TO.out _ hk).mono ?_;rintro e v3 ⟨gx,rfl,hrx,hgx,hbx⟩;have hp:Kp W5 v3:=Kp.trans hk hbx;have hgx:W5.heap.size≤gx:=Nat.le_trans (Below.size hk) hgx;clear hk hbx
       (try (go_wp2_with fail))
       refine hK.out _ _ (HS.out _ hp) fun hH1=>?_;clear hK K hH0
       (try simp only [Act.put,p1,p2,p3,p4,p5,p6])
       refine tq 14 ?_;refine rd1 13 fun K hK=>?_
       (try simp only [p1,p2,p3])
       go_simp;have hk:=And.right ‹_∧Kp W5 _›;refine (TB.out _ hk).mono ?_;rintro e v5 ⟨gy,rfl,hry,hgy,hbx⟩;have hp:Kp W5 v5:=Kp.trans hk hbx;have hgy:W5.heap.size≤gy:=Nat.le_trans (Below.size hk) hgy;replace hrx:=IRow.below hrx hbx;clear hk hbx
       (try (go_wp2_with fail))
       refine hK.out _ _ (HS.out _ hp) fun hH2=>?_;clear hK K hH1
       (try simp only [Act.put,p1,p2,p3,p4,p5,p6])
       refine wpAnyH_done (by kernel_rfl) ?_ _;clear hH2;unfold Qfr;dsimp only;have hb5:=Kp.blk hp HW5.out.1;obtain ⟨⟨_,_,_,_,_⟩,-,-,-,f3,f4⟩:=hb5.five;refine wpAny_ready (rs:=[15]) (by kernel_rfl) (by simp) ?_;refine AllReady.cons rfl (fun K hK=>?_) AllReady.nil
       (try simp only [p1,p2,p3])
       go_simp;refine hK _ _ ?_;clear hK K
       (try simp only [Act.put,p1,p2,p3,p4,p5,p6])
       refine wpAny_ready (rs:=[16]) (by kernel_rfl) (by simp) ?_;refine AllReady.cons rfl (fun K hK=>?_) AllReady.nil
       (try simp only [p1,p2,p3])
       go_simp;refine hK _ _ ?_;clear hK K
       (try simp only [Act.put,p1,p2,p3,p4,p5,p6])
       refine wpAny_ready (rs:=[17]) (by kernel_rfl) (by simp) ?_;refine AllReady.cons rfl (fun K hK=>?_) AllReady.nil
       (try simp only [p1,p2,p3])
       go_simp;refine hK _ _ ?_;clear hK K
       (try simp only [Act.put,p1,p2,p3,p4,p5,p6])
       refine wpAny_done (by kernel_rfl) ?_ _;have hgb5:gb<W5.heap.size:=HW5.out.1.lt;have HW6:=Hj (show Blk ((v5.setCell ⟨gb,3,none⟩ (.slice (some ⟨gx,0,none⟩) n n)).setCell ⟨gb,4,none⟩ (.slice (some ⟨gy,0,none⟩) m m)) gb 78 #[.int .i64 zz,.int .i64 q,.int .i64 0,.slice (some ⟨gx,0,none⟩) n n,.slice (some ⟨gy,0,none⟩) m m]∧IRow ((v5.setCell ⟨gb,3,none⟩ (.slice (some ⟨gx,0,none⟩) n n)).setCell ⟨gb,4,none⟩ (.slice (some ⟨gy,0,none⟩) m m)) gx (xR os bs)∧IRow ((v5.setCell ⟨gb,3,none⟩ (.slice (some ⟨gx,0,none⟩) n n)).setCell ⟨gb,4,none⟩ (.slice (some ⟨gy,0,none⟩) m m)) gy (yR os bs)∧Below gb V ((v5.setCell ⟨gb,3,none⟩ (.slice (some ⟨gx,0,none⟩) n n)).setCell ⟨gb,4,none⟩ (.slice (some ⟨gy,0,none⟩) m m)) from
        ⟨(hb5.set 3 _).set 4 _,Blk.far (p:=⟨gb,4,none⟩) (Blk.far (p:=⟨gb,3,none⟩) hrx (by dsimp only;omega) _) (by dsimp only;omega) _,Blk.far (p:=⟨gb,4,none⟩) (Blk.far (p:=⟨gb,3,none⟩) hry (by dsimp only;omega) _) (by dsimp only;omega) _,((HW5.out.2.2.2.trans (Below.mono hp (Nat.le_of_lt hgb5))).setCell (p:=⟨gb,3,none⟩) (Nat.le_refl _) _).setCell (p:=⟨gb,4,none⟩) (Nat.le_refl _) _⟩)
       have HGXY:=Hj (And.intro (show gx≠gb by omega) (show gy≠gb by omega));have HGXY2:=Hj (And.intro (show w.heap.size≠gx by have:=HGW.out;omega) (show w.heap.size≠gy by have:=HGW.out;omega));clear hp hb5 f3 f4 hrx hry hgx hgy hgb5 HS TO TB HW5;generalize ((v5.setCell ⟨gb,3,none⟩ (.slice (some ⟨gx,0,none⟩) n n)).setCell ⟨gb,4,none⟩ (.slice (some ⟨gy,0,none⟩) m m))=W6 at *;obtain ⟨bdx,bdy,bdw⟩:=ref_bds HC0.out;obtain ⟨we,wv⟩:=ref_wf HC0.out;have hw6:=HWV.out.trans (HW6.out.2.2.2.mono (Nat.le_of_lt HGW.out));have hlx:(xR os bs).length=n:=by rw [xR_len];exact HX.out.1
       have hly:(yR os bs).length=m:=by rw [yR_len];exact HY.out.1
       have hix:=IRow.at HW6.out.2.1 hlx;have hiy:=IRow.at HW6.out.2.2.1 hly;have hox:=HX.out.1;have hoy:=HY.out.1;have TRx:=Hj (fun W (hW:Kp W6 W)=>rrow_any (some ⟨gx,0,none⟩) n n (xR os bs) W (hix.below hW) (by omega) (fun i hi=>by have:=bdx i (by omega);exact ⟨by omega,by omega⟩));have TRy:=Hj (fun W (hW:Kp W6 W)=>rrow_any (some ⟨gy,0,none⟩) m m (yR os bs) W (hiy.below hW) (by omega) (fun i hi=>by have:=bdy i (by omega);exact ⟨by omega,by omega⟩));obtain ⟨wf,hwf⟩:∃ x,x=wR os bs:=⟨_,rfl⟩;rw [← hwf] at wv bdw;have TWf:=Hj (fun (W:World) (hW:Kp W6 W) (B3:Option Addr) (d3:Nat) (B4:Option Addr) (d4:Nat) (h3:QsAt W B3 n (castR (xR os bs))) (h4:QsAt W B4 m (castR (yR os bs))) =>
        (show Calls Tryz.prog 59 #[.slice A n c,.slice B m d,.slice B3 n d3,.slice B4 m d4] W (CstPost W ((wf:Int):Rat)) from
         (rwelfare_any A B B3 B4 n c m d n d3 m d4 os bs _ _ W (HX.out.below (hw6.trans (Below.mono hW hw6.size))) (HY.out.below (hw6.trans (Below.mono hW hw6.size))) (h3.qss fun j hj=>by
          rw [castR_get];exact (ls_int (Nat.le_refl 3) (by have:=bdx j (by omega);omega)).mono (by decide)) (h4.qss fun j hj=>by
          rw [castR_get];exact (ls_int (Nat.le_refl 3) (by have:=bdy j (by omega);omega)).mono (by decide))).mono fun e w' h=>by
           rcases h with ⟨-,h⟩|⟨h,-⟩
           ·rw [wv] at h;exact h
           ·exact absurd we h))
       have TSm:=Hj (fun (W:World) (R R':Option Addr) (k e k' e':Nat) (hh:RQ W ((wf:Int):Rat) R k e R' k' e')=>rsmall_any wf R k e R' k' e' W hh bdw);have HWF:=Hj hwf;generalize ((wf:Int):Rat)=wq at *;clear bdx bdy bdw we wv hlx hly hix hiy hox hoy hwf hw6
       go_wp2_with fail
       apply join_at
       case h =>
        intro key;refine held_at (W:=W6) (C:=fun w'=>w'.cell? ⟨gb,3,none⟩=some (.slice (some ⟨gx,0,none⟩) n n)∧w'.cell? ⟨gb,4,none⟩=some (.slice (some ⟨gy,0,none⟩) m m)) (fun w' hk=>⟨(Kp.blk hk HW6.out.1).cell 3,(Kp.blk hk HW6.out.1).cell 4⟩) (Kp.refl W6) (fun HS hH0=>?_);refine tq 0 ?_;refine tq 1 ?_;refine tq 2 ?_;refine tq 3 ?_;refine tq 5 ?_;refine tq 6 ?_;refine rd2 4 12 (fun K hK=>?_) (fun K hK=>?_)
        ·(try simp only [p1,p2,p3])
         go_simp;have hk:=And.right ‹_∧Kp W6 _›;refine (TRx.out _ hk).mono ?_;rintro e v4 ⟨B3,d3,rfl,hqx,hbx⟩;have hp:Kp W6 v4:=Kp.trans hk hbx
         (try replace hb12:=Blk.below hb12 hbx hb12.lt)
         clear hk hbx
         (try (go_wp2_with fail))
         refine hK.out _ _ (HS.out _ hp) fun hH3=>?_;clear hK K hH0
         (try simp only [Act.put,p1,p2,p3,p4,p5,p6])
         refine rd2 7 12 (fun K hK=>?_) (fun K hK=>?_)
         ·(try simp only [p1,p2,p3])
          go_simp;have hk:=And.right ‹_∧Kp W6 _›;refine (TRy.out _ hk).mono ?_;rintro e v7 ⟨B4,d4,rfl,hqy,hbx⟩;have hp:Kp W6 v7:=Kp.trans hk hbx
          (try replace hb12:=Blk.below hb12 hbx hb12.lt)
          (try replace hqx:=hqx.below hbx)
          clear hk hbx
          (try (go_wp2_with fail))
          refine hK.out _ _ (HS.out _ hp) fun hH4=>?_;clear hK K hH3
          (try simp only [Act.put,p1,p2,p3,p4,p5,p6])
          refine rd2 8 12 (fun K hK=>?_) (fun K hK=>?_)
          ·(try simp only [p1,p2,p3])
           go_simp;have hk:=And.right ‹_∧Kp W6 _›;refine (TWf.out _ hk _ _ _ _ hqx hqy).mono ?_;rintro e v8 ⟨N8,n8,o8,M8,p8,s8,rfl,hcq,hbx⟩;have hp:Kp W6 v8:=Kp.trans hk hbx
           (try replace hb12:=Blk.below hb12 hbx hb12.lt)
           have h8r:=hcq.wq;clear hcq;clear hk hbx
           (try (go_wp2_with fail))
           refine hK.out _ _ (HS.out _ hp) fun hH5=>?_;clear hK K hH4
           (try simp only [Act.put,p1,p2,p3,p4,p5,p6])
           refine tq 9 ?_;refine tq 10 ?_;refine tq 11 ?_;refine rd1 12 fun K hK=>?_
           (try simp only [p1,p2,p3])
           go_simp;have hk:=And.right ‹_∧Kp W6 _›;have hg12:=Below.size hk;have hb12:=blk_hereS hk 42 #[.bool false,.slice none 0 0,.bool false,.slice none 0 0]
           (try simp only [sz_drewS] at hb12 hg12)
           (try replace hqx:=hqx.below ((Kp.refl _).alloc (.cells #[.bool false,.slice none 0 0,.bool false,.slice none 0 0] 42)))
           (try replace hqy:=hqy.below ((Kp.refl _).alloc (.cells #[.bool false,.slice none 0 0,.bool false,.slice none 0 0] 42)))
           refine hK.out _ _ (by first|exact HS.out _ (Kp.alloc hk _)|exact HS.out _ (Kp.drew (Kp.alloc (Kp.refl W6) _))) fun hH6=>?_;clear hK K hH5
           (try simp only [Act.put,p1,p2,p3,p4,p5,p6])
           refine rd1 13 fun K hK=>?_;have hk:=And.right ‹_∧Kp W6 _›;obtain ⟨_,_,_,_,i0,i1',i2',i3⟩:=hb12.four
           (try simp only [p1,p2,p3])
           go_simp;refine hK.out _ _ (by first|exact HS.out _ (Kp.alloc hp _)|exact HS.out _ (kp_set4 hk hg12 _ _ _ _)) fun hH7=>?_;clear hK K hH6
           (try simp only [Act.put,p1,p2,p3,p4,p5,p6])
           refine tq 14 ?_;refine wpAnyH_done (by kernel_rfl) ?_ _;clear hH7;have hkY:=Kp.alloc hp (.cells #[.bool (decide (wq.num<0)),.slice N8 n8 o8,.bool false,.slice M8 p8 s8] 42);have hbY:=Blk.new v8 42 #[.bool (decide (wq.num<0)),.slice N8 n8 o8,.bool false,.slice M8 p8 s8];have hqY:=WQ.below h8r ((Kp.refl v8).alloc (.cells #[.bool (decide (wq.num<0)),.slice N8 n8 o8,.bool false,.slice M8 p8 s8] 42));clear hk hp hb12 hg12 i0 i1' i2' i3 h8r hqx hqy;generalize v8.alloc (.cells #[.bool (decide (wq.num<0)),.slice N8 n8 o8,.bool false,.slice M8 p8 s8] 42)=Y at *;generalize v8.heap.size=g12 at hbY ⊢;revert hqY;revert hbY;revert hkY;revert s8;revert p8;revert M8;revert o8;revert n8;revert N8;revert d4;revert B4;revert d3;revert B3;revert g12;revert Y;exact key.out
          ·(try simp only [p1,p2,p3])
           go_simp;have hk:=And.right ‹_∧Kp W6 _›;have hg12:=Below.size hk;have hb12:=blk_hereS hk 42 #[.bool false,.slice none 0 0,.bool false,.slice none 0 0]
           (try simp only [sz_drewS] at hb12 hg12)
           (try replace hqx:=hqx.below ((Kp.refl _).alloc (.cells #[.bool false,.slice none 0 0,.bool false,.slice none 0 0] 42)))
           (try replace hqy:=hqy.below ((Kp.refl _).alloc (.cells #[.bool false,.slice none 0 0,.bool false,.slice none 0 0] 42)))
           refine hK.out _ _ (by first|exact HS.out _ (Kp.alloc hk _)|exact HS.out _ (Kp.drew (Kp.alloc (Kp.refl W6) _))) fun hH8=>?_;clear hK K hH4
           (try simp only [Act.put,p1,p2,p3,p4,p5,p6])
           refine rd1 8 fun K hK=>?_
           (try simp only [p1,p2,p3])
           go_simp;have hk:=And.right ‹_∧Kp W6 _›;refine (TWf.out _ hk _ _ _ _ hqx hqy).mono ?_;rintro e v8 ⟨N8,n8,o8,M8,p8,s8,rfl,hcq,hbx⟩;have hp:Kp W6 v8:=Kp.trans hk hbx
           (try replace hb12:=Blk.below hb12 hbx hb12.lt)
           have h8r:=hcq.wq;clear hcq;clear hk hbx
           (try (go_wp2_with fail))
           refine hK.out _ _ (HS.out _ hp) fun hH9=>?_;clear hK K hH8
           (try simp only [Act.put,p1,p2,p3,p4,p5,p6])
           refine tq 9 ?_;refine tq 10 ?_;refine tq 11 ?_;refine rd1 13 fun K hK=>?_;have hk:=And.right ‹_∧Kp W6 _›;obtain ⟨_,_,_,_,i0,i1',i2',i3⟩:=hb12.four
           (try simp only [p1,p2,p3])
           go_simp;refine hK.out _ _ (by first|exact HS.out _ (Kp.alloc hp _)|exact HS.out _ (kp_set4 hk hg12 _ _ _ _)) fun hH10=>?_;clear hK K hH9
           (try simp only [Act.put,p1,p2,p3,p4,p5,p6])
           refine tq 14 ?_;refine wpAnyH_done (by kernel_rfl) ?_ _;clear hH10;have hkY:=kp_set4 hp hg12 (.bool (decide (wq.num<0))) (.slice N8 n8 o8) (.bool false) (.slice M8 p8 s8);have hbY:=(show Blk (qst v8 v7.heap.size 0 (decide (wq.num<0)) false N8 M8 n8 o8 p8 s8) v7.heap.size 42 #[.bool (decide (wq.num<0)),.slice N8 n8 o8,.bool false,.slice M8 p8 s8] from hb12.put4);have hqY:=WQ.put4 (o:=0) (a:=decide (wq.num<0)) (b:=false) (B:=N8) (B':=M8) (j:=n8) (d:=o8) (j':=p8) (d':=s8) h8r hb12 NoInt.four;simp only [qst,Nat.zero_add] at hbY hqY;clear hk hp hb12 hg12 i0 i1' i2' i3 h8r hqx hqy;generalize ((((v8.setCell ⟨v7.heap.size,0,none⟩ (.bool (decide (wq.num<0)))).setCell ⟨v7.heap.size,1,none⟩ (.slice N8 n8 o8)).setCell ⟨v7.heap.size,2,none⟩ (.bool false)).setCell ⟨v7.heap.size,3,none⟩ (.slice M8 p8 s8))=Y at *;generalize hg12e:v7.heap.size=g12 at hbY ⊢;clear hg12e;revert hqY;revert hbY;revert hkY;revert s8;revert p8;revert M8;revert o8;revert n8;revert N8;revert d4;revert B4;revert d3;revert B3;revert g12;revert Y;exact key.out
         ·(try simp only [p1,p2,p3])
          go_simp;have hk:=And.right ‹_∧Kp W6 _›;have hg12:=Below.size hk;have hb12:=blk_hereS hk 42 #[.bool false,.slice none 0 0,.bool false,.slice none 0 0]
          (try simp only [sz_drewS] at hb12 hg12)
          (try replace hqx:=hqx.below ((Kp.refl _).alloc (.cells #[.bool false,.slice none 0 0,.bool false,.slice none 0 0] 42)))
          (try replace hqy:=hqy.below ((Kp.refl _).alloc (.cells #[.bool false,.slice none 0 0,.bool false,.slice none 0 0] 42)))
          refine hK.out _ _ (by first|exact HS.out _ (Kp.alloc hk _)|exact HS.out _ (Kp.drew (Kp.alloc (Kp.refl W6) _))) fun hH11=>?_;clear hK K hH3
          (try simp only [Act.put,p1,p2,p3,p4,p5,p6])
          refine rd1 7 fun K hK=>?_
          (try simp only [p1,p2,p3])
          go_simp;have hk:=And.right ‹_∧Kp W6 _›;refine (TRy.out _ hk).mono ?_;rintro e v7 ⟨B4,d4,rfl,hqy,hbx⟩;have hp:Kp W6 v7:=Kp.trans hk hbx
          (try replace hb12:=Blk.below hb12 hbx hb12.lt)
          (try replace hqx:=hqx.below hbx)
          clear hk hbx
          (try (go_wp2_with fail))
          refine hK.out _ _ (HS.out _ hp) fun hH12=>?_;clear hK K hH11
          (try simp only [Act.put,p1,p2,p3,p4,p5,p6])
          refine rd1 8 fun K hK=>?_
          (try simp only [p1,p2,p3])
          go_simp;have hk:=And.right ‹_∧Kp W6 _›;refine (TWf.out _ hk _ _ _ _ hqx hqy).mono ?_;rintro e v8 ⟨N8,n8,o8,M8,p8,s8,rfl,hcq,hbx⟩;have hp:Kp W6 v8:=Kp.trans hk hbx
          (try replace hb12:=Blk.below hb12 hbx hb12.lt)
          have h8r:=hcq.wq;clear hcq;clear hk hbx
          (try (go_wp2_with fail))
          refine hK.out _ _ (HS.out _ hp) fun hH13=>?_;clear hK K hH12
          (try simp only [Act.put,p1,p2,p3,p4,p5,p6])
          refine tq 9 ?_;refine tq 10 ?_;refine tq 11 ?_;refine rd1 13 fun K hK=>?_;have hk:=And.right ‹_∧Kp W6 _›;obtain ⟨_,_,_,_,i0,i1',i2',i3⟩:=hb12.four
          (try simp only [p1,p2,p3])
          go_simp;refine hK.out _ _ (by first|exact HS.out _ (Kp.alloc hp _)|exact HS.out _ (kp_set4 hk hg12 _ _ _ _)) fun hH14=>?_;clear hK K hH13
          (try simp only [Act.put,p1,p2,p3,p4,p5,p6])
          refine tq 14 ?_;refine wpAnyH_done (by kernel_rfl) ?_ _;clear hH14;have hkY:=kp_set4 hp hg12 (.bool (decide (wq.num<0))) (.slice N8 n8 o8) (.bool false) (.slice M8 p8 s8);have hbY:=(show Blk (qst v8 v4.heap.size 0 (decide (wq.num<0)) false N8 M8 n8 o8 p8 s8) v4.heap.size 42 #[.bool (decide (wq.num<0)),.slice N8 n8 o8,.bool false,.slice M8 p8 s8] from hb12.put4);have hqY:=WQ.put4 (o:=0) (a:=decide (wq.num<0)) (b:=false) (B:=N8) (B':=M8) (j:=n8) (d:=o8) (j':=p8) (d':=s8) h8r hb12 NoInt.four;simp only [qst,Nat.zero_add] at hbY hqY;clear hk hp hb12 hg12 i0 i1' i2' i3 h8r hqx hqy;generalize ((((v8.setCell ⟨v4.heap.size,0,none⟩ (.bool (decide (wq.num<0)))).setCell ⟨v4.heap.size,1,none⟩ (.slice N8 n8 o8)).setCell ⟨v4.heap.size,2,none⟩ (.bool false)).setCell ⟨v4.heap.size,3,none⟩ (.slice M8 p8 s8))=Y at *;generalize hg12e:v4.heap.size=g12 at hbY ⊢;clear hg12e;revert hqY;revert hbY;revert hkY;revert s8;revert p8;revert M8;revert o8;revert n8;revert N8;revert d4;revert B4;revert d3;revert B3;revert g12;revert Y;exact key.out
        ·(try simp only [p1,p2,p3])
         go_simp;have hk:=And.right ‹_∧Kp W6 _›;have hg12:=Below.size hk;have hb12:=blk_hereS hk 42 #[.bool false,.slice none 0 0,.bool false,.slice none 0 0]
         (try simp only [sz_drewS] at hb12 hg12)
         (try replace hqx:=hqx.below ((Kp.refl _).alloc (.cells #[.bool false,.slice none 0 0,.bool false,.slice none 0 0] 42)))
         (try replace hqy:=hqy.below ((Kp.refl _).alloc (.cells #[.bool false,.slice none 0 0,.bool false,.slice none 0 0] 42)))
         refine hK.out _ _ (by first|exact HS.out _ (Kp.alloc hk _)|exact HS.out _ (Kp.drew (Kp.alloc (Kp.refl W6) _))) fun hH15=>?_;clear hK K hH0
         (try simp only [Act.put,p1,p2,p3,p4,p5,p6])
         refine rd1 4 fun K hK=>?_
         (try simp only [p1,p2,p3])
         go_simp;have hk:=And.right ‹_∧Kp W6 _›;refine (TRx.out _ hk).mono ?_;rintro e v4 ⟨B3,d3,rfl,hqx,hbx⟩;have hp:Kp W6 v4:=Kp.trans hk hbx
         (try replace hb12:=Blk.below hb12 hbx hb12.lt)
         clear hk hbx
         (try (go_wp2_with fail))
         refine hK.out _ _ (HS.out _ hp) fun hH16=>?_;clear hK K hH15
         (try simp only [Act.put,p1,p2,p3,p4,p5,p6])
         refine rd1 7 fun K hK=>?_
         (try simp only [p1,p2,p3])
         go_simp;have hk:=And.right ‹_∧Kp W6 _›;refine (TRy.out _ hk).mono ?_;rintro e v7 ⟨B4,d4,rfl,hqy,hbx⟩;have hp:Kp W6 v7:=Kp.trans hk hbx
         (try replace hb12:=Blk.below hb12 hbx hb12.lt)
         (try replace hqx:=hqx.below hbx)
         clear hk hbx
         (try (go_wp2_with fail))
         refine hK.out _ _ (HS.out _ hp) fun hH17=>?_;clear hK K hH16
         (try simp only [Act.put,p1,p2,p3,p4,p5,p6])
         refine rd1 8 fun K hK=>?_
         (try simp only [p1,p2,p3])
         go_simp;have hk:=And.right ‹_∧Kp W6 _›;refine (TWf.out _ hk _ _ _ _ hqx hqy).mono ?_;rintro e v8 ⟨N8,n8,o8,M8,p8,s8,rfl,hcq,hbx⟩;have hp:Kp W6 v8:=Kp.trans hk hbx
         (try replace hb12:=Blk.below hb12 hbx hb12.lt)
         have h8r:=hcq.wq;clear hcq;clear hk hbx
         (try (go_wp2_with fail))
         refine hK.out _ _ (HS.out _ hp) fun hH18=>?_;clear hK K hH17
         (try simp only [Act.put,p1,p2,p3,p4,p5,p6])
         refine tq 9 ?_;refine tq 10 ?_;refine tq 11 ?_;refine rd1 13 fun K hK=>?_;have hk:=And.right ‹_∧Kp W6 _›;obtain ⟨_,_,_,_,i0,i1',i2',i3⟩:=hb12.four
         (try simp only [p1,p2,p3])
         go_simp;refine hK.out _ _ (by first|exact HS.out _ (Kp.alloc hp _)|exact HS.out _ (kp_set4 hk hg12 _ _ _ _)) fun hH19=>?_;clear hK K hH18
         (try simp only [Act.put,p1,p2,p3,p4,p5,p6])
         refine tq 14 ?_;refine wpAnyH_done (by kernel_rfl) ?_ _;clear hH19;have hkY:=kp_set4 hp hg12 (.bool (decide (wq.num<0))) (.slice N8 n8 o8) (.bool false) (.slice M8 p8 s8);have hbY:=(show Blk (qst v8 W6.heap.size 0 (decide (wq.num<0)) false N8 M8 n8 o8 p8 s8) W6.heap.size 42 #[.bool (decide (wq.num<0)),.slice N8 n8 o8,.bool false,.slice M8 p8 s8] from hb12.put4);have hqY:=WQ.put4 (o:=0) (a:=decide (wq.num<0)) (b:=false) (B:=N8) (B':=M8) (j:=n8) (d:=o8) (j':=p8) (d':=s8) h8r hb12 NoInt.four;simp only [qst,Nat.zero_add] at hbY hqY;clear hk hp hb12 hg12 i0 i1' i2' i3 h8r hqx hqy;generalize ((((v8.setCell ⟨W6.heap.size,0,none⟩ (.bool (decide (wq.num<0)))).setCell ⟨W6.heap.size,1,none⟩ (.slice N8 n8 o8)).setCell ⟨W6.heap.size,2,none⟩ (.bool false)).setCell ⟨W6.heap.size,3,none⟩ (.slice M8 p8 s8))=Y at *;generalize hg12e:W6.heap.size=g12 at hbY ⊢;clear hg12e;revert hqY;revert hbY;revert hkY;revert s8;revert p8;revert M8;revert o8;revert n8;revert N8;revert d4;revert B4;revert d3;revert B3;revert g12;revert Y;exact key.out
       case k =>
        intro Y g12 B3 d3 B4 d4 N8 n8 o8 M8 p8 s8 hkY hbY hqY;clear TRx TRy TWf;obtain ⟨a0,a1,a2,a3,-,-,-,-⟩:=hbY.four;have HYF:=Hj (And.intro hkY hqY);clear hkY hbY hqY
        go_wp2_with fail
        refine (TSm.out Y _ _ _ _ _ _ HYF.out.2).mono ?_;rintro e v9 ⟨rfl,hb9⟩;have hk9:Kp W6 v9:=Kp.trans HYF.out.1 hb9;have hbg:=Kp.blk hk9 HW6.out.1;obtain ⟨⟨_,_,_,_,_⟩,-,-,g2,-,-⟩:=hbg.five;have hbg2:=hbg.set 2 (.int .i64 wf);have hY2:Blk (v9.setCell ⟨gb,2,none⟩ (.int .i64 wf)) gb 78 #[.int .i64 zz,.int .i64 q,.int .i64 wf,.slice (some ⟨gx,0,none⟩) n n,.slice (some ⟨gy,0,none⟩) m m]:=hbg2;obtain ⟨⟨c0,c1,c2,c3,c4⟩,-⟩:=hY2.five;have hbv:=((HW6.out.2.2.2.trans (Below.mono hk9 (Nat.le_of_lt HW6.out.1.lt))).setCell (p:=⟨gb,2,none⟩) (Nat.le_refl _) (.int .i64 wf));have hrx:=Blk.far (IRow.below HW6.out.2.1 hk9) (show gx≠gb from HGXY.out.1) (.int .i64 wf) (p:=⟨gb,2,none⟩);have hry:=Blk.far (IRow.below HW6.out.2.2.1 hk9) (show gy≠gb from HGXY.out.2) (.int .i64 wf) (p:=⟨gb,2,none⟩);have hb8:Blk (v9.setCell ⟨gb,2,none⟩ (.int .i64 wf)) w.heap.size 78 #[.int .i64 0,.int .i64 0,.int .i64 0,.slice none 0 0,.slice none 0 0]:=Blk.below (Kp.blk HKV.out (Kp.blk HKO.out HX8.out)) hbv HGW.out;obtain ⟨⟨_,_,_,_,_⟩,h0,h1,h2,h3,h4⟩:=hb8.five;have hbw:=HWV.out.trans (hbv.mono (Nat.le_of_lt HGW.out));generalize hY2e:v9.setCell ⟨gb,2,none⟩ (.int .i64 wf)=Y2 at *;have hfin:∀ a b c d e,IRow (st5 Y2 w.heap.size a b c d e) gx (xR os bs)∧IRow (st5 Y2 w.heap.size a b c d e) gy (yR os bs)∧Below w.heap.size w (st5 Y2 w.heap.size a b c d e)∧Blk (st5 Y2 w.heap.size a b c d e) w.heap.size 78 #[a,b,c,d,e]:=fun a b c d e =>
         ⟨Blk.far5 hrx (by have:=HGXY2.out;omega) a b c d e,Blk.far5 hry (by have:=HGXY2.out;omega) a b c d e,below_st5 hbw (Nat.le_refl _) a b c d e,hb8.set5 a b c d e⟩
        have HF:=Hj (hfin (.int .i64 zz) (.int .i64 q) (.int .i64 wf) (.slice (some ⟨gx,0,none⟩) n n) (.slice (some ⟨gy,0,none⟩) m m));have hF4:=HF.out.2.2.2;unfold st5 at hF4;obtain ⟨⟨d0,d1,d2,d3,d4⟩,-⟩:=hF4.five;clear hbw hb8 hry hrx hbv hY2 hbg2 hfin hF4 hb9;subst hY2e;go_wp2;refine bodyPost_ret (v:=.tuple #[.agg #[.int .i64 zz,.int .i64 q,.int .i64 wf,.slice (some ⟨gx,0,none⟩) n n,.slice (some ⟨gy,0,none⟩) m m],.int .i64 0]) ?_ rfl ?_
        ·simp [results,Tryz.results47,go_sem,d0,d1,d2,d3,d4]
        ·exact ⟨gx,gy,by rw [← HZZ.out,← HPQ.out,← HWF.out,HX.out.1,HY.out.1],HF.out.1,HF.out.2.1,HF.out.2.2.1⟩
end Go.Proofs.YtjajigkacccdgaaGreat
