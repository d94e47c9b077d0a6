/-
Lemmas of the walk; no further conditions.
-/
import Derived.Test.YtjajigkacccdgaaGreatTgBF
import Derived.Test.YtjajigkacccdgaaGreatRows
import Derived.WalkKit
import Derived.ProofKit
import Derived.OpenShut
import Derived.Carry
import Derived.WideKeyArgs
import Derived.Deep.Slices
set_option linter.unusedVariables false
set_option linter.unusedSimpArgs false
set_option maxRecDepth 100000
set_option maxHeartbeats 16000000
namespace Go.Proofs.YtjajigkacccdgaaGreat
open Go.RowKit
open Wd
def goodA (ls:List (List (Int×Int))) (gs:List Rat):Prop:=∀ i,i<ls.length→0≤gs[i]?.getD 0∧gs[i]?.getD 0≤((qsum (ls[i]?.getD []):Int):Rat)
def moneyA (ls:List (List (Int×Int))) (gs:List Rat) (k:Nat):Rat:=sumF (fun i=>costAt (ls[i]?.getD []) (gs[i]?.getD 0) (ls[i]?.getD []).length) k
def qtyA (gs:List Rat) (k:Nat):Rat:=sumF (fun i=>gs[i]?.getD 0) k
theorem qtyA_ls {s:Nat} {gs:List Rat} {n:Nat} (h:∀ j,j<n→Ls s (gs[j]?.getD 0)):∀ k,k≤n→Ls (k*(s+1)+1) (qtyA gs k)
 | 0,_=>ls_zero _ (by omega)
 | k+1,hk=>by
  have ih:=qtyA_ls h k (by omega);unfold qtyA at ih ⊢;rw [sumF];exact (ih.add (h k (by omega))).mono (by rw [Nat.succ_mul];omega)
theorem cost_ls {s:Nat} (hs:3≤s) {l:List (Int×Int)} {q:Rat} (he:curveE l=0) (h0:0≤q) (hq:Ls s q):Ls (3*(s+6)+1) (costAt l q l.length):=by
 obtain ⟨hn0,hn3,hok⟩:=curve_ok he;have h3:=wb_three;have h3s:=wb_mono hs;exact (costAt_ls (fun k hk=>partAt_bd h0 hok hq.1 hq.2 (by omega) (by omega) hk) (bad_price hok) _ (Nat.le_refl _)).mono (by have:=Nat.mul_le_mul_right (s+6) hn3;omega)
theorem moneyA_ls {s:Nat} (hs:3≤s) {ls:List (List (Int×Int))} {gs:List Rat} {n:Nat} (he:∀ j,j<n→curveE (ls[j]?.getD [])=0) (h0:∀ j,j<n→0≤gs[j]?.getD 0) (h:∀ j,j<n→Ls s (gs[j]?.getD 0)):∀ k,k≤n→Ls (k*(3*(s+6)+2)+1) (moneyA ls gs k)
 | 0,_=>ls_zero _ (by omega)
 | k+1,hk=>by
  have ih:=moneyA_ls hs he h0 h k (by omega);unfold moneyA at ih ⊢;rw [sumF];exact (ih.add (cost_ls hs (he k (by omega)) (h0 k (by omega)) (h k (by omega)))).mono (by rw [Nat.succ_mul k];omega)
theorem total_s (up:Bool) (A B:Option Addr) (n c d:Nat) (ls:List (List (Int×Int))) (gs:List Rat) (w:World) (h:CsAt w A n ls) (hq:QsS 7 w B n gs) (hn:n≤1000) (hk:∀ l∈ls,chk up l=0) (hx:goodA ls gs) :
  Calls Tryz.prog 114 #[.slice A n c,.slice B n d] w (TotP w (moneyA ls gs n) (qtyA gs n)):=by
 obtain ⟨es,he,hw⟩:=hq.raw;have hl:=h.1;have hkk:∀ k,k<n→curveE (ls[k]?.getD [])=0:=fun k hk2=>curve_good (hk _ (getD_mem (d:=[]) (by omega)));have hlq:∀ j,j<n→Ls 7 (gs[j]?.getD 0):=fun j hj=>(hw j hj).ls;have hls:=moneyA_ls (s:=7) (by decide) hkk (fun j hj=>(hx j (by omega)).1) hlq;have hqs:=qtyA_ls hlq;refine total_gen A B n c d ls es w h he hn (fun k=>costAt (ls[k]?.getD []) (gs[k]?.getD 0) (ls[k]?.getD []).length) (moneyA ls gs) (qtyA gs) rfl rfl ?_ ?_ ?_
 ·intro k hk W hW A' n' c' hst;have e:n'=(ls[k]?.getD []).length:=hst.1.symm;subst e;exact scost_s (s:=7) (by decide) (by decide) A' _ c' _ _ _ _ _ _ _ _ _ _ W hst ((hw k hk).below hW) (hkk k hk) (hx k (by omega)).1 (hx k (by omega)).2
 ·intro k hk W A1 A1' j c1 j' c1' B1 B1' i d1 i' d1' h1 h2;have s1:=(hls k (by omega)).mono (show k*(3*(7+6)+2)+1≤50000 by omega);have s2:=(cost_ls (s:=7) (by decide) (hkk k hk) (hx k (by omega)).1 (hlq k hk)).mono (show 3*(7+6)+1≤50000 by decide);exact add_s (s:=50000) (by decide) (RQ.qs h1 s1 (by decide)) (RQ.qs h2 s2 (by decide))
 ·intro k hk W hW A1 A1' j c1 j' c1' h1;have s1:=(hqs k (by omega)).mono (show k*(7+1)+1≤50000 by omega);exact add_s (s:=50000) (by decide) (RQ.qs h1 s1 (by decide)) (((hw k hk).below hW).mono (by decide))
theorem first_bad {P:Nat→Prop}:∀ {n:Nat},¬ (∀ i,i<n→P i)→∃ i,i<n∧¬ P i∧∀ j,j<i→P j
 | 0,h=>absurd (fun i hi=>absurd hi (by omega)) h
 | n+1,h=>by
  by_cases h1:∀ i,i<n→P i
  ·refine ⟨n,by omega,fun hp=>h fun i hi=>?_,h1⟩;by_cases e:i=n
   ·subst e;exact hp
   ·exact h1 i (by omega)
  ·obtain ⟨i,a,b,c⟩:=first_bad h1;exact ⟨i,by omega,b,c⟩
theorem total_no (up:Bool) (A B:Option Addr) (n c d:Nat) (ls:List (List (Int×Int))) (gs:List Rat) (w:World) (h:CsAt w A n ls) (hq:QsS 7 w B n gs) (hn:n≤1000) (hk:∀ l∈ls,chk up l=0) (hx:¬ goodA ls gs) :
  Calls Tryz.prog 114 #[.slice A n c,.slice B n d] w fun e w'=>e=.returned (.tuple #[.agg #[.bool false,.slice none 0 0,.bool false,.slice none 0 0],.agg #[.bool false,.slice none 0 0,.bool false,.slice none 0 0],.int .i64 1])∧Below w.heap.size w w':=by
 obtain ⟨i0,hi0,hb,hgd⟩:=first_bad hx;obtain ⟨es,he,hw⟩:=hq.raw;have hl:=h.1;rw [hl] at hi0;have hkk:∀ k,k<n→curveE (ls[k]?.getD [])=0:=fun k hk2=>curve_good (hk _ (getD_mem (d:=[]) (by omega)));have hlq:∀ j,j<n→Ls 7 (gs[j]?.getD 0):=fun j hj=>(hw j hj).ls;have hls:=moneyA_ls (n:=i0) (s:=7) (by decide) (fun j hj=>hkk j (by omega)) (fun j hj=>(hgd j hj).1) (fun j hj=>hlq j (by omega));have hqs:=qtyA_ls hlq;refine total_bad A B n c d ls es w h he hn i0 hi0 (fun k=>costAt (ls[k]?.getD []) (gs[k]?.getD 0) (ls[k]?.getD []).length) (moneyA ls gs) (qtyA gs) rfl rfl ?_ ?_ ?_ ?_
 ·intro k hk W hW A' n' c' hst;have e:n'=(ls[k]?.getD []).length:=hst.1.symm;subst e;exact scost_s (s:=7) (by decide) (by decide) A' _ c' _ _ _ _ _ _ _ _ _ _ W hst ((hw k (by omega)).below hW) (hkk k (by omega)) (hgd k hk).1 (hgd k hk).2
 ·intro k hk W A1 A1' j c1 j' c1' B1 B1' i d1 i' d1' h1 h2;have s1:=(hls k (by omega)).mono (show k*(3*(7+6)+2)+1≤50000 by omega);have s2:=(cost_ls (s:=7) (by decide) (hkk k (by omega)) (hgd k hk).1 (hlq k (by omega))).mono (show 3*(7+6)+1≤50000 by decide);exact add_s (s:=50000) (by decide) (RQ.qs h1 s1 (by decide)) (RQ.qs h2 s2 (by decide))
 ·intro k hk W hW A1 A1' j c1 j' c1' h1;have s1:=(hqs k (by omega)).mono (show k*(7+1)+1≤50000 by omega);exact add_s (s:=50000) (by decide) (RQ.qs h1 s1 (by decide)) (((hw k (by omega)).below hW).mono (by decide))
 ·intro W hW A' n' c' hst;refine scost_no A' n' c' _ W hst (hkk i0 hi0) _ _ _ _ _ _ _ _ _ ((hw i0 hi0).below hW).arg ?_;by_cases h0:gs[i0]?.getD 0<0
  ·exact Or.inl h0
  ·refine Or.inr ?_;have:¬ gs[i0]?.getD 0≤((qsum (ls[i0]?.getD []):Int):Rat):=fun hh=>hb ⟨by grind,hh⟩;grind
open Classical in
noncomputable def wfE (os bs:List (List (Int×Int))) (gs ts:List Rat):Int :=
 if ckB os bs≠0 then ckB os bs else if gs.length≠os.length∨ts.length≠bs.length then 3 else if ¬ goodA os gs∨¬ goodA bs ts then 1 else if qtyA gs os.length≠qtyA ts bs.length then 10 else 0
def wfV (os bs:List (List (Int×Int))) (gs ts:List Rat):Rat:=moneyA bs ts bs.length-moneyA os gs os.length
theorem welfare_e1 (A B G H:Option Addr) (n c k d gn gc hn hc:Nat) (os bs:List (List (Int×Int))) (gs ts:List Rat) (w:World) (h:CsAt w A n os) (h':CsAt w B k bs) (hg:QsS 7 w G gn gs) (ht:QsS 7 w H hn ts) (hs:∀ l∈os,l.length≤1000000000000) (hr:∀ l∈bs,l.length≤1000000000000) (hc0:ckB os bs≠0):Calls Tryz.prog 56 #[.slice A n c,.slice B k d,.slice G gn gc,.slice H hn hc] w (ErrQ w (ckB os bs)):=by
 have T0:=Hj (fun W (hW:Below w.heap.size w W)=>ccheck_any A B n c k d os bs W (h.below hW) (h'.below hW) hs hr);generalize ckB os bs=x at *;have dx:(x != 0)=true:=by simpa using hc0
 unfold ErrQ;clear h h' hg ht hs hr hc0;go_enter Tryz.func56,Tryz.ntmps56
 go_wp2_with fail
 have bx8:=Blk.new w 42 #[.bool false,.slice none 0 0,.bool false,.slice none 0 0];have hb0:Below w.heap.size w (w.alloc (.cells #[.bool false,.slice none 0 0,.bool false,.slice none 0 0] 42)):=(Below.refl _ _).alloc (Nat.le_refl _) _;generalize w.alloc (.cells #[.bool false,.slice none 0 0,.bool false,.slice none 0 0] 42)=W0 at *;refine (T0.out W0 hb0).mono ?_;rintro e w1 ⟨rfl,hb1⟩;have HB1:=Hj (hb0.trans (hb1.mono hb0.size));have HX8:=Hj (bx8.below hb1 bx8.lt);clear bx8 hb0 hb1 T0;have hx:=HX8.out;obtain ⟨a0,a1,a2,a3,a4,a5,a6,a7⟩:=hx.four;have e8:(((w1.setCell ⟨w.heap.size,0,none⟩ (.bool false)).setCell ⟨w.heap.size,1,none⟩ (.slice none 0 0)).setCell ⟨w.heap.size,2,none⟩ (.bool false)).setCell ⟨w.heap.size,3,none⟩ (.slice none 0 0)=qst w1 w.heap.size 0 false false none none 0 0 0 0:=rfl;have hb8:Blk (qst w1 w.heap.size 0 false false none none 0 0 0 0) w.heap.size _ _:=hx.put4 (o:=0);obtain ⟨d0,d1,d2,d3,-⟩:=Blk.four hb8;have HF:=Hj (below_qst (o:=0) (a:=false) (b:=false) (A:=none) (A':=none) (k:=0) (c:=0) (k':=0) (c':=0) HB1.out (Nat.le_refl w.heap.size));have HE8:=Hj e8;clear hb8 e8 hx HX8 HB1;go_wp2;rw [HE8.out];refine bodyPost_ret (v:=.tuple #[.agg #[.bool false,.slice none 0 0,.bool false,.slice none 0 0],.int .i64 x]) ?_ rfl ⟨rfl,HF.out⟩;simp [results,Tryz.results56,go_sem,d0,d1,d2,d3]
theorem welfare_e2 (A B G H:Option Addr) (n c k d gn gc hn hc:Nat) (os bs:List (List (Int×Int))) (gs ts:List Rat) (w:World) (h:CsAt w A n os) (h':CsAt w B k bs) (hg:QsS 7 w G gn gs) (ht:QsS 7 w H hn ts) (hs:∀ l∈os,l.length≤1000000000000) (hr:∀ l∈bs,l.length≤1000000000000) (hc0:ckB os bs=0) (hl:gn≠n∨hn≠k):Calls Tryz.prog 56 #[.slice A n c,.slice B k d,.slice G gn gc,.slice H hn hc] w (ErrQ w 3):=by
 have T0:=Hj (fun W (hW:Below w.heap.size w W)=>ccheck_any A B n c k d os bs W (h.below hW) (h'.below hW) hs hr);rw [hc0] at T0;unfold ErrQ;clear h h' hg ht hs hr hc0;by_cases e1:gn=n
 ·have b1:((gn:Int) != (n:Int))=false:=by simp [e1]
  have b2:((hn:Int) != (k:Int))=true:=by
   rcases hl with hl|hl
   ·exact absurd e1 hl
   ·simp;omega
  clear hl e1;go_enter Tryz.func56,Tryz.ntmps56
  go_wp2_with fail
  have bx8:=Blk.new w 42 #[.bool false,.slice none 0 0,.bool false,.slice none 0 0];have hb0:Below w.heap.size w (w.alloc (.cells #[.bool false,.slice none 0 0,.bool false,.slice none 0 0] 42)):=(Below.refl _ _).alloc (Nat.le_refl _) _;generalize w.alloc (.cells #[.bool false,.slice none 0 0,.bool false,.slice none 0 0] 42)=W0 at *;refine (T0.out W0 hb0).mono ?_;rintro e w1 ⟨rfl,hb1⟩;have HB1:=Hj (hb0.trans (hb1.mono hb0.size));have HX8:=Hj (bx8.below hb1 bx8.lt);clear bx8 hb0 hb1 T0;have hx:=HX8.out;obtain ⟨a0,a1,a2,a3,a4,a5,a6,a7⟩:=hx.four;have e8:(((w1.setCell ⟨w.heap.size,0,none⟩ (.bool false)).setCell ⟨w.heap.size,1,none⟩ (.slice none 0 0)).setCell ⟨w.heap.size,2,none⟩ (.bool false)).setCell ⟨w.heap.size,3,none⟩ (.slice none 0 0)=qst w1 w.heap.size 0 false false none none 0 0 0 0:=rfl;have hb8:Blk (qst w1 w.heap.size 0 false false none none 0 0 0 0) w.heap.size _ _:=hx.put4 (o:=0);obtain ⟨d0,d1,d2,d3,-⟩:=Blk.four hb8;have HF:=Hj (below_qst (o:=0) (a:=false) (b:=false) (A:=none) (A':=none) (k:=0) (c:=0) (k':=0) (c':=0) HB1.out (Nat.le_refl w.heap.size));have HE8:=Hj e8;clear hb8 e8 hx HX8 HB1;go_wp2;rw [HE8.out];refine bodyPost_ret (v:=.tuple #[.agg #[.bool false,.slice none 0 0,.bool false,.slice none 0 0],.int .i64 3]) ?_ rfl ⟨rfl,HF.out⟩;simp [results,Tryz.results56,go_sem,d0,d1,d2,d3]
 ·have b1:((gn:Int) != (n:Int))=true:=by simp;omega
  clear hl e1;go_enter Tryz.func56,Tryz.ntmps56
  go_wp2_with fail
  have bx8:=Blk.new w 42 #[.bool false,.slice none 0 0,.bool false,.slice none 0 0];have hb0:Below w.heap.size w (w.alloc (.cells #[.bool false,.slice none 0 0,.bool false,.slice none 0 0] 42)):=(Below.refl _ _).alloc (Nat.le_refl _) _;generalize w.alloc (.cells #[.bool false,.slice none 0 0,.bool false,.slice none 0 0] 42)=W0 at *;refine (T0.out W0 hb0).mono ?_;rintro e w1 ⟨rfl,hb1⟩;have HB1:=Hj (hb0.trans (hb1.mono hb0.size));have HX8:=Hj (bx8.below hb1 bx8.lt);clear bx8 hb0 hb1 T0;have hx:=HX8.out;obtain ⟨a0,a1,a2,a3,a4,a5,a6,a7⟩:=hx.four;have e8:(((w1.setCell ⟨w.heap.size,0,none⟩ (.bool false)).setCell ⟨w.heap.size,1,none⟩ (.slice none 0 0)).setCell ⟨w.heap.size,2,none⟩ (.bool false)).setCell ⟨w.heap.size,3,none⟩ (.slice none 0 0)=qst w1 w.heap.size 0 false false none none 0 0 0 0:=rfl;have hb8:Blk (qst w1 w.heap.size 0 false false none none 0 0 0 0) w.heap.size _ _:=hx.put4 (o:=0);obtain ⟨d0,d1,d2,d3,-⟩:=Blk.four hb8;have HF:=Hj (below_qst (o:=0) (a:=false) (b:=false) (A:=none) (A':=none) (k:=0) (c:=0) (k':=0) (c':=0) HB1.out (Nat.le_refl w.heap.size));have HE8:=Hj e8;clear hb8 e8 hx HX8 HB1;go_wp2;rw [HE8.out];refine bodyPost_ret (v:=.tuple #[.agg #[.bool false,.slice none 0 0,.bool false,.slice none 0 0],.int .i64 3]) ?_ rfl ⟨rfl,HF.out⟩;simp [results,Tryz.results56,go_sem,d0,d1,d2,d3]
theorem welfare_e3 (A B G H:Option Addr) (n c k d gn gc hn hc:Nat) (os bs:List (List (Int×Int))) (gs ts:List Rat) (w:World) (h:CsAt w A n os) (h':CsAt w B k bs) (hg:QsS 7 w G gn gs) (ht:QsS 7 w H hn ts) (hs:∀ l∈os,l.length≤1000000000000) (hr:∀ l∈bs,l.length≤1000000000000) (hc0:ckB os bs=0) (hl1:gn=n) (hl2:hn=k) (hx:¬ goodA os gs):Calls Tryz.prog 56 #[.slice A n c,.slice B k d,.slice G gn gc,.slice H hn hc] w (ErrQ w 1):=by
 obtain ⟨l1,l2,k3,k4⟩:=ckB_iff.1 hc0;have T0:=Hj (fun W (hW:Below w.heap.size w W)=>ccheck_any A B n c k d os bs W (h.below hW) (h'.below hW) hs hr);rw [hc0] at T0;subst hl1;subst hl2;have H1:=Hj (fun W (hW:Below w.heap.size w W)=>total_no true A G gn c gc os gs W (h.below hW) (hg.below hW) (by have:=h.1;omega) k3 hx);have b1:((gn:Int) != (gn:Int))=false:=by simp
 have b2:((hn:Int) != (hn:Int))=false:=by simp
 unfold ErrQ;clear h h' hg ht hs hr hc0 l1 l2 k3 k4 hx;go_enter Tryz.func56,Tryz.ntmps56
 go_wp2_with fail
 have bx8:=Blk.new w 42 #[.bool false,.slice none 0 0,.bool false,.slice none 0 0];have hb0:Below w.heap.size w (w.alloc (.cells #[.bool false,.slice none 0 0,.bool false,.slice none 0 0] 42)):=(Below.refl _ _).alloc (Nat.le_refl _) _;generalize w.alloc (.cells #[.bool false,.slice none 0 0,.bool false,.slice none 0 0] 42)=W0 at *;refine (T0.out W0 hb0).mono ?_;rintro e w1 ⟨rfl,hb1⟩;have HB1:=Hj (hb0.trans (hb1.mono hb0.size));have HX8:=Hj (bx8.below hb1 bx8.lt);clear bx8 hb0 hb1 T0
 go_wp2_with fail
 refine (H1.out w1 HB1.out).mono ?_;rintro e w9 ⟨rfl,hb9⟩;have k9:=((Kp.refl w9).alloc (.cells #[.bool false,.slice none 0 0,.bool false,.slice none 0 0] 42)).alloc (.cells #[.bool false,.slice none 0 0,.bool false,.slice none 0 0] 42);have HB9:=Hj ((HB1.out.trans (hb9.mono HB1.out.size)).trans (Below.mono k9 (HB1.out.trans (hb9.mono HB1.out.size)).size));have HX9:=Hj (Kp.blk k9 (HX8.out.below hb9 HX8.out.lt));clear hb9 k9 HB1 HX8;have hx:=HX9.out;obtain ⟨a0,a1,a2,a3,a4,a5,a6,a7⟩:=hx.four;have e8:(((((w9.alloc (.cells #[.bool false,.slice none 0 0,.bool false,.slice none 0 0] 42)).alloc (.cells #[.bool false,.slice none 0 0,.bool false,.slice none 0 0] 42)).setCell ⟨w.heap.size,0,none⟩ (.bool false)).setCell ⟨w.heap.size,1,none⟩ (.slice none 0 0)).setCell ⟨w.heap.size,2,none⟩ (.bool false)).setCell ⟨w.heap.size,3,none⟩ (.slice none 0 0)=qst ((w9.alloc (.cells #[.bool false,.slice none 0 0,.bool false,.slice none 0 0] 42)).alloc (.cells #[.bool false,.slice none 0 0,.bool false,.slice none 0 0] 42)) w.heap.size 0 false false none none 0 0 0 0:=rfl;have hb8:Blk (qst ((w9.alloc (.cells #[.bool false,.slice none 0 0,.bool false,.slice none 0 0] 42)).alloc (.cells #[.bool false,.slice none 0 0,.bool false,.slice none 0 0] 42)) w.heap.size 0 false false none none 0 0 0 0) w.heap.size _ _:=hx.put4 (o:=0);obtain ⟨d0,d1,d2,d3,-⟩:=Blk.four hb8;have HF:=Hj (below_qst (o:=0) (a:=false) (b:=false) (A:=none) (A':=none) (k:=0) (c:=0) (k':=0) (c':=0) HB9.out (Nat.le_refl w.heap.size));have HE8:=Hj e8;clear hb8 e8 hx HX9 HB9;go_wp2;rw [HE8.out];refine bodyPost_ret (v:=.tuple #[.agg #[.bool false,.slice none 0 0,.bool false,.slice none 0 0],.int .i64 1]) ?_ rfl ⟨rfl,HF.out⟩;simp [results,Tryz.results56,go_sem,d0,d1,d2,d3]
theorem welfare_e4 (A B G H:Option Addr) (n c k d gn gc hn hc:Nat) (os bs:List (List (Int×Int))) (gs ts:List Rat) (w:World) (h:CsAt w A n os) (h':CsAt w B k bs) (hg:QsS 7 w G gn gs) (ht:QsS 7 w H hn ts) (hs:∀ l∈os,l.length≤1000000000000) (hr:∀ l∈bs,l.length≤1000000000000) (hc0:ckB os bs=0) (hl1:gn=n) (hl2:hn=k) (hx:goodA os gs) (hy:¬ goodA bs ts):Calls Tryz.prog 56 #[.slice A n c,.slice B k d,.slice G gn gc,.slice H hn hc] w (ErrQ w 1):=by
 obtain ⟨l1,l2,k3,k4⟩:=ckB_iff.1 hc0;have T0:=Hj (fun W (hW:Below w.heap.size w W)=>ccheck_any A B n c k d os bs W (h.below hW) (h'.below hW) hs hr);rw [hc0] at T0;subst hl1;subst hl2;have H1:=Hj (fun W (hW:Below w.heap.size w W)=>total_s true A G gn c gc os gs W (h.below hW) (hg.below hW) (by have:=h.1;omega) k3 hx);have H2:=Hj (fun W (hW:Below w.heap.size w W)=>total_no false B H hn d hc bs ts W (h'.below hW) (ht.below hW) (by have:=h'.1;omega) k4 hy);generalize moneyA os gs gn=m at *;generalize qtyA gs gn=s at *;have b1:((gn:Int) != (gn:Int))=false:=by simp
 have b2:((hn:Int) != (hn:Int))=false:=by simp
 unfold ErrQ;clear h h' hg ht hs hr hc0 l1 l2 k3 k4 hx hy;go_enter Tryz.func56,Tryz.ntmps56
 go_wp2_with fail
 have bx8:=Blk.new w 42 #[.bool false,.slice none 0 0,.bool false,.slice none 0 0];have hb0:Below w.heap.size w (w.alloc (.cells #[.bool false,.slice none 0 0,.bool false,.slice none 0 0] 42)):=(Below.refl _ _).alloc (Nat.le_refl _) _;generalize w.alloc (.cells #[.bool false,.slice none 0 0,.bool false,.slice none 0 0] 42)=W0 at *;refine (T0.out W0 hb0).mono ?_;rintro e w1 ⟨rfl,hb1⟩;have HB1:=Hj (hb0.trans (hb1.mono hb0.size));have HX8:=Hj (bx8.below hb1 bx8.lt);clear bx8 hb0 hb1 T0
 go_wp2_with fail
 refine (H1.out w1 HB1.out).mono ?_;rintro e w2 ⟨A1,j1,c1,A2,j2,c2,B1,i1,d1,B2,i2,d2,rfl,hc1,hc2,hb2⟩;have HB2:=Hj (HB1.out.trans (hb2.mono HB1.out.size));have HX8b:=Hj (HX8.out.below hb2 HX8.out.lt);have HQ1:=Hj (And.intro hc1.wq hc2.wq);clear hc1 hc2 hb2 HB1 H1 HX8
 go_wp2_with fail
 have b11:=(Blk.new w2 42 #[.bool (decide ((m).num<0)),.slice A1 j1 c1,.bool false,.slice A2 j2 c2]).alloc (.cells #[.bool (decide ((s).num<0)),.slice B1 i1 d1,.bool false,.slice B2 i2 d2] 42);have b12:=Blk.new (w2.alloc (.cells #[.bool (decide ((m).num<0)),.slice A1 j1 c1,.bool false,.slice A2 j2 c2] 42)) 42 #[.bool (decide ((s).num<0)),.slice B1 i1 d1,.bool false,.slice B2 i2 d2];simp only [World.size_alloc] at b12;have k2:=((Kp.refl w2).alloc (.cells #[.bool (decide ((m).num<0)),.slice A1 j1 c1,.bool false,.slice A2 j2 c2] 42)).alloc (.cells #[.bool (decide ((s).num<0)),.slice B1 i1 d1,.bool false,.slice B2 i2 d2] 42);generalize (w2.alloc (.cells #[.bool (decide ((m).num<0)),.slice A1 j1 c1,.bool false,.slice A2 j2 c2] 42)).alloc (.cells #[.bool (decide ((s).num<0)),.slice B1 i1 d1,.bool false,.slice B2 i2 d2] 42)=W2 at *;generalize w2.heap.size=g11 at *;have HB3:=Hj (HB2.out.trans (Below.mono k2 HB2.out.size));have HX8c:=Hj (Kp.blk k2 HX8b.out);have HQ2:=Hj (And.intro (HQ1.out.1.below k2) (HQ1.out.2.below k2));clear k2 HB2 HX8b HQ1;refine (H2.out W2 HB3.out).mono ?_;rintro e w9 ⟨rfl,hb9⟩;have k9:=((Kp.refl w9).alloc (.cells #[.bool false,.slice none 0 0,.bool false,.slice none 0 0] 42)).alloc (.cells #[.bool false,.slice none 0 0,.bool false,.slice none 0 0] 42);have HB9:=Hj ((HB3.out.trans (hb9.mono HB3.out.size)).trans (Below.mono k9 (HB3.out.trans (hb9.mono HB3.out.size)).size));have HX9:=Hj (Kp.blk k9 (HX8c.out.below hb9 HX8c.out.lt));clear hb9 k9 HB3 HX8c;have hx:=HX9.out;obtain ⟨a0,a1,a2,a3,a4,a5,a6,a7⟩:=hx.four;have e8:(((((w9.alloc (.cells #[.bool false,.slice none 0 0,.bool false,.slice none 0 0] 42)).alloc (.cells #[.bool false,.slice none 0 0,.bool false,.slice none 0 0] 42)).setCell ⟨w.heap.size,0,none⟩ (.bool false)).setCell ⟨w.heap.size,1,none⟩ (.slice none 0 0)).setCell ⟨w.heap.size,2,none⟩ (.bool false)).setCell ⟨w.heap.size,3,none⟩ (.slice none 0 0)=qst ((w9.alloc (.cells #[.bool false,.slice none 0 0,.bool false,.slice none 0 0] 42)).alloc (.cells #[.bool false,.slice none 0 0,.bool false,.slice none 0 0] 42)) w.heap.size 0 false false none none 0 0 0 0:=rfl;have hb8:Blk (qst ((w9.alloc (.cells #[.bool false,.slice none 0 0,.bool false,.slice none 0 0] 42)).alloc (.cells #[.bool false,.slice none 0 0,.bool false,.slice none 0 0] 42)) w.heap.size 0 false false none none 0 0 0 0) w.heap.size _ _:=hx.put4 (o:=0);obtain ⟨d0,d1,d2,d3,-⟩:=Blk.four hb8;have HF:=Hj (below_qst (o:=0) (a:=false) (b:=false) (A:=none) (A':=none) (k:=0) (c:=0) (k':=0) (c':=0) HB9.out (Nat.le_refl w.heap.size));have HE8:=Hj e8;clear hb8 e8 hx HX9 HB9;go_wp2;rw [HE8.out];refine bodyPost_ret (v:=.tuple #[.agg #[.bool false,.slice none 0 0,.bool false,.slice none 0 0],.int .i64 1]) ?_ rfl ⟨rfl,HF.out⟩;simp [results,Tryz.results56,go_sem,d0,d1,d2,d3]
theorem welfare_e5 (A B G H:Option Addr) (n c k d gn gc hn hc:Nat) (os bs:List (List (Int×Int))) (gs ts:List Rat) (w:World) (h:CsAt w A n os) (h':CsAt w B k bs) (hg:QsS 7 w G gn gs) (ht:QsS 7 w H hn ts) (hs:∀ l∈os,l.length≤1000000000000) (hr:∀ l∈bs,l.length≤1000000000000) (hc0:ckB os bs=0) (hl1:gn=n) (hl2:hn=k) (hx:goodA os gs) (hy:goodA bs ts) (hz:qtyA gs n≠qtyA ts k):Calls Tryz.prog 56 #[.slice A n c,.slice B k d,.slice G gn gc,.slice H hn hc] w (ErrQ w 10):=by
 obtain ⟨l1,l2,k3,k4⟩:=ckB_iff.1 hc0;have T0:=Hj (fun W (hW:Below w.heap.size w W)=>ccheck_any A B n c k d os bs W (h.below hW) (h'.below hW) hs hr);rw [hc0] at T0;subst hl1;subst hl2;have H1:=Hj (fun W (hW:Below w.heap.size w W)=>total_s true A G gn c gc os gs W (h.below hW) (hg.below hW) (by have:=h.1;omega) k3 hx);have H2:=Hj (fun W (hW:Below w.heap.size w W)=>total_s false B H hn d hc bs ts W (h'.below hW) (ht.below hW) (by have:=h'.1;omega) k4 hy);have s1:Ls 50000 (qtyA gs gn):=by
  obtain ⟨es,he,hw⟩:=hg.raw;exact (qtyA_ls (fun j hj=>(hw j hj).ls) gn (Nat.le_refl _)).mono (by have:=h.1;omega)
 have l9:Ls 50000 (qtyA ts hn):=by
  obtain ⟨es,he,hw⟩:=ht.raw;exact (qtyA_ls (fun j hj=>(hw j hj).ls) hn (Nat.le_refl _)).mono (by have:=h'.1;omega)
 have HEQ:=Hj (fun (W:World) (A A':Option Addr) (j c j' c':Nat) (B B':Option Addr) (i d i' d':Nat) (h1:WQ W (qtyA gs gn) A j c A' j' c') (h2:WQ W (qtyA ts hn) B i d B' i' d')=>eq_s (s:=50000) (RQ.qs h1 s1 (by decide)) (RQ.qs h2 l9 (by decide)));rw [decide_eq_false hz] at HEQ;generalize moneyA os gs gn=m at *;generalize qtyA gs gn=s at *;generalize moneyA bs ts hn=m2 at *;generalize qtyA ts hn=s2 at *;have b1:((gn:Int) != (gn:Int))=false:=by simp
 have b2:((hn:Int) != (hn:Int))=false:=by simp
 unfold ErrQ;clear h h' hg ht hs hr hc0 l1 l2 k3 k4 hx hy hz s1 l9;go_enter Tryz.func56,Tryz.ntmps56
 go_wp2_with fail
 have bx8:=Blk.new w 42 #[.bool false,.slice none 0 0,.bool false,.slice none 0 0];have hb0:Below w.heap.size w (w.alloc (.cells #[.bool false,.slice none 0 0,.bool false,.slice none 0 0] 42)):=(Below.refl _ _).alloc (Nat.le_refl _) _;generalize w.alloc (.cells #[.bool false,.slice none 0 0,.bool false,.slice none 0 0] 42)=W0 at *;refine (T0.out W0 hb0).mono ?_;rintro e w1 ⟨rfl,hb1⟩;have HB1:=Hj (hb0.trans (hb1.mono hb0.size));have HX8:=Hj (bx8.below hb1 bx8.lt);clear bx8 hb0 hb1 T0
 go_wp2_with fail
 refine (H1.out w1 HB1.out).mono ?_;rintro e w2 ⟨A1,j1,c1,A2,j2,c2,B1,i1,d1,B2,i2,d2,rfl,hc1,hc2,hb2⟩;have HB2:=Hj (HB1.out.trans (hb2.mono HB1.out.size));have HX8b:=Hj (HX8.out.below hb2 HX8.out.lt);have HQ1:=Hj (And.intro hc1.wq hc2.wq);clear hc1 hc2 hb2 HB1 H1 HX8
 go_wp2_with fail
 have b11:=(Blk.new w2 42 #[.bool (decide ((m).num<0)),.slice A1 j1 c1,.bool false,.slice A2 j2 c2]).alloc (.cells #[.bool (decide ((s).num<0)),.slice B1 i1 d1,.bool false,.slice B2 i2 d2] 42);have b12:=Blk.new (w2.alloc (.cells #[.bool (decide ((m).num<0)),.slice A1 j1 c1,.bool false,.slice A2 j2 c2] 42)) 42 #[.bool (decide ((s).num<0)),.slice B1 i1 d1,.bool false,.slice B2 i2 d2];simp only [World.size_alloc] at b12;have k2:=((Kp.refl w2).alloc (.cells #[.bool (decide ((m).num<0)),.slice A1 j1 c1,.bool false,.slice A2 j2 c2] 42)).alloc (.cells #[.bool (decide ((s).num<0)),.slice B1 i1 d1,.bool false,.slice B2 i2 d2] 42);generalize (w2.alloc (.cells #[.bool (decide ((m).num<0)),.slice A1 j1 c1,.bool false,.slice A2 j2 c2] 42)).alloc (.cells #[.bool (decide ((s).num<0)),.slice B1 i1 d1,.bool false,.slice B2 i2 d2] 42)=W2 at *;generalize w2.heap.size=g11 at *;have HB3:=Hj (HB2.out.trans (Below.mono k2 HB2.out.size));have HX8c:=Hj (Kp.blk k2 HX8b.out);have HQ2:=Hj (And.intro (HQ1.out.1.below k2) (HQ1.out.2.below k2));clear k2 HB2 HX8b HQ1;refine (H2.out W2 HB3.out).mono ?_;rintro e w3 ⟨A3,j3,c3,A4,j4,c4,B3,i3,d3,B4,i4,d4,rfl,hc3,hc4,hb3⟩;have HB4:=Hj (HB3.out.trans (hb3.mono HB3.out.size));have HX8d:=Hj (HX8c.out.below hb3 HX8c.out.lt);have hb11:=b11.below hb3 b11.lt;have hb12:=b12.below hb3 b12.lt;have HQ3:=Hj (And.intro (HQ2.out.1.below hb3) (And.intro (HQ2.out.2.below hb3) (And.intro hc3.wq hc4.wq)));have k3:=((Kp.refl w3).alloc (.cells #[.bool (decide ((m2).num<0)),.slice A3 j3 c3,.bool false,.slice A4 j4 c4] 42)).alloc (.cells #[.bool (decide ((s2).num<0)),.slice B3 i3 d3,.bool false,.slice B4 i4 d4] 42);have b14:=(Blk.new w3 42 #[.bool (decide ((m2).num<0)),.slice A3 j3 c3,.bool false,.slice A4 j4 c4]).alloc (.cells #[.bool (decide ((s2).num<0)),.slice B3 i3 d3,.bool false,.slice B4 i4 d4] 42);have b15:=Blk.new (w3.alloc (.cells #[.bool (decide ((m2).num<0)),.slice A3 j3 c3,.bool false,.slice A4 j4 c4] 42)) 42 #[.bool (decide ((s2).num<0)),.slice B3 i3 d3,.bool false,.slice B4 i4 d4];simp only [World.size_alloc] at b15;have hb11:=Kp.blk k3 hb11;have hb12:=Kp.blk k3 hb12;obtain ⟨x0,x1,x2,x3,-,-,-,-⟩:=hb12.four;obtain ⟨y0,y1,y2,y3,-,-,-,-⟩:=b15.four;have HB5:=Hj (HB4.out.trans (Below.mono k3 HB4.out.size));have HX8e:=Hj (Kp.blk k3 HX8d.out);have HQ4:=Hj (And.intro (HQ3.out.1.below k3) (And.intro (HQ3.out.2.1.below k3) (And.intro (HQ3.out.2.2.1.below k3) (HQ3.out.2.2.2.below k3))));clear k3 HB4 HX8d HQ3 hc3 hc4 hb3 HB3 HX8c b11 b12 HQ2 H2 hb11 hb12 b14 b15
 go_wp2_with fail
 refine (HEQ.out _ _ _ _ _ _ _ _ _ _ _ _ _ HQ4.out.2.1 HQ4.out.2.2.2).mono ?_;rintro e w4 ⟨rfl,hb4⟩;have HB6:=Hj (HB5.out.trans (hb4.mono HB5.out.size));have HX8f:=Hj (HX8e.out.below hb4 HX8e.out.lt);clear hb4 HB5 HX8e HQ4 HEQ x0 x1 x2 x3 y0 y1 y2 y3;have hx:=HX8f.out;obtain ⟨a0,a1,a2,a3,a4,a5,a6,a7⟩:=hx.four;have e8:(((w4.setCell ⟨w.heap.size,0,none⟩ (.bool false)).setCell ⟨w.heap.size,1,none⟩ (.slice none 0 0)).setCell ⟨w.heap.size,2,none⟩ (.bool false)).setCell ⟨w.heap.size,3,none⟩ (.slice none 0 0)=qst w4 w.heap.size 0 false false none none 0 0 0 0:=rfl;have hb8:Blk (qst w4 w.heap.size 0 false false none none 0 0 0 0) w.heap.size _ _:=hx.put4 (o:=0);obtain ⟨d0,d1,d2,d3,-⟩:=Blk.four hb8;have HF:=Hj (below_qst (o:=0) (a:=false) (b:=false) (A:=none) (A':=none) (k:=0) (c:=0) (k':=0) (c':=0) HB6.out (Nat.le_refl w.heap.size));have HE8:=Hj e8;clear hb8 e8 hx HX8f HB6;go_wp2;rw [HE8.out];refine bodyPost_ret (v:=.tuple #[.agg #[.bool false,.slice none 0 0,.bool false,.slice none 0 0],.int .i64 10]) ?_ rfl ⟨rfl,HF.out⟩;simp [results,Tryz.results56,go_sem,d0,d1,d2,d3]
theorem welfare_ok (A B G H:Option Addr) (n c k d gn gc hn hc:Nat) (os bs:List (List (Int×Int))) (gs ts:List Rat) (w:World) (h:CsAt w A n os) (h':CsAt w B k bs) (hg:QsS 7 w G gn gs) (ht:QsS 7 w H hn ts) (hs:∀ l∈os,l.length≤1000000000000) (hr:∀ l∈bs,l.length≤1000000000000) (hc0:ckB os bs=0) (hl1:gn=n) (hl2:hn=k) (hx:goodA os gs) (hy:goodA bs ts) (hz:qtyA gs n=qtyA ts k):Calls Tryz.prog 56 #[.slice A n c,.slice B k d,.slice G gn gc,.slice H hn hc] w (CstPost w (moneyA bs ts k-moneyA os gs n)):=by
 obtain ⟨l1,l2,k3,k4⟩:=ckB_iff.1 hc0;subst hl1;subst hl2;have hlg:∀ j,j<gn→Ls 7 (gs[j]?.getD 0):=by
  obtain ⟨es,he,hw⟩:=hg.raw;exact fun j hj=>(hw j hj).ls
 have hlt:∀ j,j<hn→Ls 7 (ts[j]?.getD 0):=by
  obtain ⟨es,he,hw⟩:=ht.raw;exact fun j hj=>(hw j hj).ls
 have e1:=h.1;have e2:=h'.1;have s1:Ls 50000 (qtyA gs gn):=(qtyA_ls hlg gn (Nat.le_refl _)).mono (by omega);have m1:Ls 50000 (moneyA os gs gn):=(moneyA_ls (s:=7) (by decide) (fun j hj=>curve_good (k3 _ (getD_mem (d:=[]) (by omega)))) (fun j hj=>(hx j (by omega)).1) hlg gn (Nat.le_refl _)).mono (by omega);have m2:Ls 50000 (moneyA bs ts hn):=(moneyA_ls (s:=7) (by decide) (fun j hj=>curve_good (k4 _ (getD_mem (d:=[]) (by omega)))) (fun j hj=>(hy j (by omega)).1) hlt hn (Nat.le_refl _)).mono (by omega);refine welfare_gen A B G H gn c hn d gc hc os bs w h h' hc0 (moneyA os gs gn) (moneyA bs ts hn) (qtyA gs gn) ?_ ?_ ?_ ?_
 ·exact fun W hW=>total_s true A G gn c gc os gs W (h.below hW) (hg.below hW) (by omega) k3 hx
 ·intro W hW;rw [hz];exact total_s false B H hn d hc bs ts W (h'.below hW) (ht.below hW) (by omega) k4 hy
 ·intro W A A' j c j' c' B B' i d i' d' h1 h2;have:=eq_s (s:=50000) (RQ.qs h1 s1 (by decide)) (RQ.qs h2 s1 (by decide));rw [decide_eq_true rfl] at this;exact this
 ·intro W A A' j c j' c' B B' i d i' d' h1 h2;exact sub_s (s:=50000) (by decide) (RQ.qs h1 m2 (by decide)) (RQ.qs h2 m1 (by decide))
theorem welfare_any (A B G H:Option Addr) (n c k d gn gc hn hc:Nat) (os bs:List (List (Int×Int))) (gs ts:List Rat) (w:World) (h:CsAt w A n os) (h':CsAt w B k bs) (hg:QsS 7 w G gn gs) (ht:QsS 7 w H hn ts) (hs:∀ l∈os,l.length≤1000000000000) (hr:∀ l∈bs,l.length≤1000000000000):Calls Tryz.prog 56 #[.slice A n c,.slice B k d,.slice G gn gc,.slice H hn hc] w fun e w'=>(wfE os bs gs ts=0∧CstPost w (wfV os bs gs ts) e w')∨(wfE os bs gs ts≠0∧ErrQ w (wfE os bs gs ts) e w'):=by
 have e1:=h.1;have e2:=h'.1;have e3:=hg.1;have e4:=ht.1;unfold wfE;by_cases c1:ckB os bs=0
 ·rw [if_neg (by simpa using c1)];by_cases c2:gs.length≠os.length∨ts.length≠bs.length
  ·rw [if_pos c2];exact (welfare_e2 A B G H n c k d gn gc hn hc os bs gs ts w h h' hg ht hs hr c1 (by omega)).mono fun e w' hh=>Or.inr ⟨by decide,hh⟩
  ·rw [if_neg c2];have l1:gn=n:=by omega
   have l2:hn=k:=by omega
   by_cases c3:goodA os gs
   ·by_cases c4:goodA bs ts
    ·rw [if_neg (by simp [c3,c4])];by_cases c5:qtyA gs os.length=qtyA ts bs.length
     ·rw [if_neg (by simpa using c5)];refine (welfare_ok A B G H n c k d gn gc hn hc os bs gs ts w h h' hg ht hs hr c1 l1 l2 c3 c4 (by rw [← e1,← e2];exact c5)).mono fun e w' hh=>Or.inl ⟨rfl,?_⟩;unfold wfV;rw [e1,e2];exact hh
     ·rw [if_pos c5];exact (welfare_e5 A B G H n c k d gn gc hn hc os bs gs ts w h h' hg ht hs hr c1 l1 l2 c3 c4 (by rw [← e1,← e2];exact c5)).mono fun e w' hh=>Or.inr ⟨by decide,hh⟩
    ·rw [if_pos (Or.inr c4)];exact (welfare_e4 A B G H n c k d gn gc hn hc os bs gs ts w h h' hg ht hs hr c1 l1 l2 c3 c4).mono fun e w' hh=>Or.inr ⟨by decide,hh⟩
   ·rw [if_pos (Or.inl c3)];exact (welfare_e3 A B G H n c k d gn gc hn hc os bs gs ts w h h' hg ht hs hr c1 l1 l2 c3).mono fun e w' hh=>Or.inr ⟨by decide,hh⟩
 ·rw [if_pos c1];exact (welfare_e1 A B G H n c k d gn gc hn hc os bs gs ts w h h' hg ht hs hr c1).mono fun e w' hh=>Or.inr ⟨c1,hh⟩
end Go.Proofs.YtjajigkacccdgaaGreat
namespace Go.Proofs.YtjajigkacccdgaaGreat
open Go.ChangeShapes Go.WideShapes Go.ChangeAt Go.RowKit Go.Deep
open Wd
theorem own:ownKnob Tryz.prog.godebug=none:=by kernel_rfl
theorem laidOut:laidOutB Tryz.prog=true:=by kernel_rfl
section
variable {H:Type} {enc:TypeId×Value→H} {W:World}
end
section
variable {H:Type} {enc:TypeId×Value→H} {P:Program} {W:World}
theorem args_stay (hlo:laidOutB P=true) {W':World} (hb:Below W.heap.size W W') (sp:Nat→Bool):∀ {ts:List TypeId} {vs:List Value} {ds:List (DataW H)} {ps:List MemPlace},
  (∀ t∈ts,P.readableRec t=true∧t<P.types.size)→DataW.TrodAll enc P W 0 (fun _=>true) true ts vs ds ps→(∀ p∈ps,p.block<W.heap.size)→(∀ p∈ps,sp p.block=true) →
  DataW.TrodAll enc P W' 0 sp true ts vs ds ps
 | [],_,_,_,_,h,_,_=>by obtain ⟨rfl,rfl,rfl⟩:=trodAll_nil h;exact trodAll_mk0
 | t :: ts,_,_,_,hr,h,hlt,hs=>by
  obtain ⟨v,vs',d,ds',p,q,rfl,rfl,rfl,h1,h2⟩:=trodAll_cons h;have hr1:=hr t (List.mem_cons_self ..);exact trodAll_cons_mk (WideElems.Trod_stays hlo hr1.1 hr1.2 h1 (fun x hx=>hb.same (hlt x (List.mem_append_left _ hx))) (fun x hx=>hs x (List.mem_append_left _ hx)))
   (args_stay hlo hb sp (fun y hy=>hr y (List.mem_cons_of_mem _ hy)) h2 (fun x hx=>hlt x (List.mem_append_right _ hx)) (fun x hx=>hs x (List.mem_append_right _ hx)))
theorem post_true (hlo:laidOutB P=true) {f:Func} {s:ChangeSpec} {W':World} {args:Array Value} {ds:List (DataW H)} {before:List MemPlace} {tb:TypeId} (hbool:P.underlying tb=some .bool) (hv:s.vars=[]) (hr1:f.resultTypes=#[tb])
  (hr:∀ t∈f.params.toList,P.readableRec t=true∧t<P.types.size)
  (hW:DataW.Whole enc P f.params.toList s.vars false W args.toList ds [] before) (hres:(s.fn H (ds ++ [])).results=[.lit (.bool true)]) (hargs:(s.fn H (ds ++ [])).args=ds) (hvars:(s.fn H (ds ++ [])).vars=[]) (hb:Below W.heap.size W W') :
  s.post enc P f false true false false W args (.bool true) W':=by
 have hW':=hW;obtain ⟨p,q,hA,hV,rfl,hz,hn⟩:=hW;rw [hv] at hV;obtain ⟨_,rfl⟩:=trodVars_none hV;have hlt:∀ x∈p ++ [],x.block<W.heap.size:=fun x hx=>hW'.lt x hx;have hlt':∀ x∈p,x.block<W.heap.size:=fun x hx=>hlt x (by simpa using hx);have hold:∀ x∈p,(fun b=>decide (b<W.heap.size)) x.block=true:=fun x hx=>by simpa using hlt' x hx
 have hRes:∀ (b:Nat) (sp:Nat→Bool) (hd:Bool),DataW.TrodAll enc P W' b sp hd f.resultTypes.toList ((Value.bool true).resultList f.resultTypes.size) (s.fn H (ds ++ [])).results []:=fun b sp hd=>by
  rw [hres,hr1];exact trodAll_cons_mk (shut_bool hbool true) trodAll_mk0
 have hArg:∀ sp:Nat→Bool,(∀ x∈p,sp x.block=true)→DataW.TrodAll enc P W' 0 sp true f.params.toList args.toList (s.fn H (ds ++ [])).args p:=fun sp hsp=>by
  rw [hargs];exact args_stay hlo hb sp hr hA hlt' hsp
 have hVar:∀ sp:Nat→Bool,DataW.TrodVars enc P W' sp s.vars (s.fn H (ds ++ [])).vars []:=fun sp=>by
  rw [hv,hvars];rfl
 refine ⟨ds,[],p ++ [],[],p,[],hW',hRes _ _ _,hArg _ (by simpa using hold),hVar _,World.keptBut_mono (fun x hx=>⟨hx,?_⟩) (hb.frame (·∈p ++ [])),fun _=>?_⟩
 ·exact Or.inr (by simpa using hx)
 ·refine ⟨ok_one hr1 rfl (okWide_bool_mk hbool _),_,_,([] ++ p) ++ [],⟨[] ++ p,[],trodAll_append (hArg _ (fun _ _=>rfl)) (hRes _ _ _),hVar _,rfl,?_,?_⟩,?_⟩
  ·intro b off hp;have hin:MemPlace.cell b off∈p ++ []:=by simpa using hp
   rw [hb.frozen (hlt _ hin)];exact hz b off hin
  ·intro ha;cases ha
  ·intro x hx _;simpa using hx
end
theorem rowed {P:Program} {ps:Array TypeId} (h:(ps.toList.all fun t=>P.readableRec t && decide (t<P.types.size))=true):∀ t∈ps.toList,P.readableRec t=true∧t<P.types.size:=by
 intro t ht;have:=List.all_eq_true.1 h t ht;simpa using this
section
variable {H:Type} {enc:TypeId×Value→H} {W:World}
end
section
variable {H:Type} {enc:TypeId×Value→H} {W:World}
end
end Go.Proofs.YtjajigkacccdgaaGreat
namespace Go.Proofs.YtjajigkacccdgaaGreat
open Go.RowKit
open Wd
section
variable {os bs:List (List (Int×Int))} {gs ts:List Rat}
theorem wfE_1 (h:ckB os bs≠0):wfE os bs gs ts=ckB os bs:=by
 unfold wfE;rw [if_pos h]
theorem wfE_2 (h:ckB os bs=0) (h2:gs.length≠os.length∨ts.length≠bs.length):wfE os bs gs ts=3:=by
 unfold wfE;rw [if_neg (by simpa using h),if_pos h2]
theorem wfE_3 (h:ckB os bs=0) (h1:gs.length=os.length) (h2:ts.length=bs.length) (h3:¬ goodA os gs∨¬ goodA bs ts):wfE os bs gs ts=1:=by
 unfold wfE;rw [if_neg (by simpa using h),if_neg (by simp [h1,h2]),if_pos h3]
theorem wfE_4 (h:ckB os bs=0) (h1:gs.length=os.length) (h2:ts.length=bs.length) (h3:goodA os gs) (h4:goodA bs ts) (h5:qtyA gs os.length≠qtyA ts bs.length):wfE os bs gs ts=10:=by
 unfold wfE;rw [if_neg (by simpa using h),if_neg (by simp [h1,h2]),if_neg (by simp [h3,h4]),if_pos h5]
theorem wfE_5 (h:ckB os bs=0) (h1:gs.length=os.length) (h2:ts.length=bs.length) (h3:goodA os gs) (h4:goodA bs ts) (h5:qtyA gs os.length=qtyA ts bs.length):wfE os bs gs ts=0:=by
 unfold wfE;rw [if_neg (by simpa using h),if_neg (by simp [h1,h2]),if_neg (by simp [h3,h4]),if_neg (by simpa using h5)]
end
end Go.Proofs.YtjajigkacccdgaaGreat
