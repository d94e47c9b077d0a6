/-
Lemmas of the walk; no further conditions.
-/
import Derived.Test.YtjajigkacccdgaaGreatTiAM
import Derived.Test.YtjajigkacccdgaaGreatTiAK
import Derived.Deep.AppendLies
import Derived.Deep.RegionLaw
import Derived.Laws.OwnMore
set_option linter.unusedVariables false
set_option linter.unusedSimpArgs false
set_option maxRecDepth 100000
set_option maxHeartbeats 16000000
namespace Go.Proofs.YtjajigkacccdgaaGreat
open Go.RowKit
open Wd
theorem digs_len_mono {x y:Nat} (h:x≤y):(digs x).length≤(digs y).length:=by
 rw [digs_len_le];exact Nat.lt_of_le_of_lt h (digs_len_le.1 (Nat.le_refl _))
theorem ov_not (x y s:Int) (hx:Fits x) (hy:Fits y) (hs:Fits s) (h:(x<0↔¬ s<0)∧(y<0↔¬ s<0)):decide (0≤bits .and .i64 (bits .xor .i64 x s) (bits .xor .i64 y s))=false:=by
 rw [bits_and,bits_xor,bits_xor,BitVec.ofInt_toInt,BitVec.ofInt_toInt];refine decide_eq_false ?_;have hm:((BitVec.ofInt 64 x ^^^ BitVec.ofInt 64 s) &&& (BitVec.ofInt 64 y ^^^ BitVec.ofInt 64 s)).msb=true:=by
  rw [BitVec.msb_and,BitVec.msb_xor,BitVec.msb_xor,msb_of x hx,msb_of y hy,msb_of s hs];by_cases h1:x<0<;>by_cases h2:y<0<;>by_cases h3:s<0<;>simp [h1,h2,h3]<;>omega
 rw [BitVec.msb_eq_toInt] at hm;simpa using hm
theorem wrap_fits (z:Int):Fits (IntKind.i64.wrap z):=by rw [IntKind.wrap_i64];unfold Fits;omega
theorem signedSum_any (neg neg':Bool) (A A':Option Addr) (n n' c c' x y:Nat) (w:World) (h:Wat w A n (digs x)) (h':Wat w A' n' (digs y)) (hm:n≤10000000000) (hm':n'≤10000000000) :
  Calls Tryz.prog 216 #[.bool neg,.slice A n c,.bool neg',.slice A' n' c'] w (RetZ w (sg neg x+sg neg' y)):=by
 by_cases hs:neg=neg'
 ·subst hs;have hz:sg neg x+sg neg y=sg neg (x+y):=by unfold sg;cases neg<;>simp<;>omega
  rw [hz];have T1:=Hj (fun W (hW:Below w.heap.size w W)=>addWords_any A A' n n' c c' (digs x) (digs y) W (h.below hW) (h'.below hW) hm hm');have hbb:(neg == neg)=true:=by simp
  clear h h' hz;go_enter Tryz.func216,Tryz.ntmps216
  go_wp2_with fail
  obtain ⟨hB0,hBW,hsz⟩:=pre1 w 40 #[.bool false,.slice none 0 0];generalize w.alloc (.cells #[.bool false,.slice none 0 0] 40)=W at *;have HSZ:=Hj hsz;clear hsz;refine (T1.out W hBW).mono ?_;rintro e w1 ⟨A1,k1,c1,p1,rfl,hk1,hkb1,hW1,hp1,hF1,hb1⟩;rw [val_digs,val_digs] at hp1;have HP:=Hj hp1;clear hp1
  go_wp2_with fail
  refine (build_any neg A1 _ c1 _ _ hW1 hk1 (by omega)).mono ?_;intro e w2 hr;have hr:=RetZ.of_in hb1 hW1 hF1 hk1 hr;rw [HP.out] at hr;obtain ⟨A2,k2,c2,rfl,hk2,hW2,hF2,hb2⟩:=hr;have hr2:=(RS.start hB0).call hb2;obtain ⟨_,_,c0,c1',f0,f1⟩:=hr2.two;have hfin:=retZ_close hBW (by omega) (by have:=HSZ.out;show _<W.heap.size;omega) hr2 hk2 hW2 hF2;obtain ⟨d0,d1,-,-⟩:=(hr2.done (.bool (decide (sg neg (x+y)<0))) (.slice A2 k2 c2)).two;have HF:=Hj hfin;clear hfin;go_wp2;refine bodyPost_ret (v:=.agg #[.bool (decide (sg neg (x+y)<0)),.slice A2 k2 c2]) ?_ rfl HF.out;simp [results,Tryz.results216,go_sem,d0,d1]
 ·have hbb:(neg == neg')=false:=by simpa using hs
  have T0:=Hj (fun W (hW:Below w.heap.size w W)=>compareWords_bel A A' n n' c c' x y W (h.below hW) (h'.below hW) (by omega) (by omega));have hl:=h.1;have hl':=h'.1;by_cases hxy:x<y
  ·have hz:sg neg x+sg neg' y=sg neg' (y-x):=by unfold sg;cases neg<;>cases neg'<;>simp at hs ⊢<;>omega
   rw [hz];have hle:=digs_len_mono (Nat.le_of_lt hxy);have T1:=Hj (fun W (hW:Below w.heap.size w W)=>subWords_any A' A n' n c' c (digs y) (digs x) W (h'.below hW) (h.below hW) hm' hm (by omega) (by rw [val_digs,val_digs];omega));have hc0:cmpI x y = -1:=cmpI_lt (by omega);rw [hc0] at T0;clear h h' hz hl hl' hle hs hxy hc0;go_enter Tryz.func216,Tryz.ntmps216
   go_wp2_with fail
   obtain ⟨hB0,hBW,hsz⟩:=pre1 w 40 #[.bool false,.slice none 0 0];generalize w.alloc (.cells #[.bool false,.slice none 0 0] 40)=W at *;have HSZ:=Hj hsz;clear hsz;refine (T0.out W hBW).mono ?_;rintro e w0 ⟨rfl,hb0⟩;have hB0:=hB0.below hb0 hB0.lt;have hBW0:=hBW.trans (hb0.mono hBW.size);have HSZ0:=Hj (show w.heap.size+1≤w0.heap.size from hB0.lt);clear hBW HSZ T0;obtain ⟨W,rfl⟩:∃ v,v=w0:=⟨_,rfl⟩;have hBW:=hBW0;have HSZ:=HSZ0
   go_wp2_with fail
   refine (T1.out W hBW).mono ?_;rintro e w1 ⟨A1,k1,c1,p1,rfl,hk1,hkb1,hW1,hp1,hF1,hb1⟩;rw [val_digs,val_digs] at hp1;replace hkb1:=Nat.le_of_eq hkb1;have HP:=Hj hp1;clear hp1
   go_wp2_with fail
   refine (build_any neg' A1 _ c1 _ _ hW1 hk1 (by omega)).mono ?_;intro e w2 hr;have hr:=RetZ.of_in hb1 hW1 hF1 hk1 hr;rw [HP.out] at hr;obtain ⟨A2,k2,c2,rfl,hk2,hW2,hF2,hb2⟩:=hr;have hr2:=(RS.start hB0).call hb2;obtain ⟨_,_,c0,c1',f0,f1⟩:=hr2.two;have hfin:=retZ_close hBW (by omega) (by have:=HSZ.out;show _<W.heap.size;omega) hr2 hk2 hW2 hF2;obtain ⟨d0,d1,-,-⟩:=(hr2.done (.bool (decide (sg neg' (y-x)<0))) (.slice A2 k2 c2)).two;have HF:=Hj hfin;clear hfin;go_wp2;refine bodyPost_ret (v:=.agg #[.bool (decide (sg neg' (y-x)<0)),.slice A2 k2 c2]) ?_ rfl HF.out;simp [results,Tryz.results216,go_sem,d0,d1]
  ·have hz:sg neg x+sg neg' y=sg neg (x-y):=by unfold sg;cases neg<;>cases neg'<;>simp at hs ⊢<;>omega
   rw [hz];have hle:=digs_len_mono (show y≤x by omega);have T1:=Hj (fun W (hW:Below w.heap.size w W)=>subWords_any A A' n n' c c' (digs x) (digs y) W (h.below hW) (h'.below hW) hm hm' (by omega) (by rw [val_digs,val_digs];omega));have hc0:¬ cmpI x y<0:=by
    rcases Nat.lt_or_ge y x with h1|h1
    ·rw [cmpI_gt (by omega)];decide
    ·rw [cmpI_eq (by omega)];decide
   generalize cmpI x y=cc at *;clear h h' hz hl hl' hle hs hxy;go_enter Tryz.func216,Tryz.ntmps216
   go_wp2_with fail
   obtain ⟨hB0,hBW,hsz⟩:=pre1 w 40 #[.bool false,.slice none 0 0];generalize w.alloc (.cells #[.bool false,.slice none 0 0] 40)=W at *;have HSZ:=Hj hsz;clear hsz;refine (T0.out W hBW).mono ?_;rintro e w0 ⟨rfl,hb0⟩;have hB0:=hB0.below hb0 hB0.lt;have hBW0:=hBW.trans (hb0.mono hBW.size);have HSZ0:=Hj (show w.heap.size+1≤w0.heap.size from hB0.lt);clear hBW HSZ T0;obtain ⟨W,rfl⟩:∃ v,v=w0:=⟨_,rfl⟩;have hBW:=hBW0;have HSZ:=HSZ0
   go_wp2_with fail
   refine (T1.out W hBW).mono ?_;rintro e w1 ⟨A1,k1,c1,p1,rfl,hk1,hkb1,hW1,hp1,hF1,hb1⟩;rw [val_digs,val_digs] at hp1;replace hkb1:=Nat.le_of_eq hkb1;have HP:=Hj hp1;clear hp1
   go_wp2_with fail
   refine (build_any neg A1 _ c1 _ _ hW1 hk1 (by omega)).mono ?_;intro e w2 hr;have hr:=RetZ.of_in hb1 hW1 hF1 hk1 hr;rw [HP.out] at hr;obtain ⟨A2,k2,c2,rfl,hk2,hW2,hF2,hb2⟩:=hr;have hr2:=(RS.start hB0).call hb2;obtain ⟨_,_,c0,c1',f0,f1⟩:=hr2.two;have hfin:=retZ_close hBW (by omega) (by have:=HSZ.out;show _<W.heap.size;omega) hr2 hk2 hW2 hF2;obtain ⟨d0,d1,-,-⟩:=(hr2.done (.bool (decide (sg neg (x-y)<0))) (.slice A2 k2 c2)).two;have HF:=Hj hfin;clear hfin;go_wp2;refine bodyPost_ret (v:=.agg #[.bool (decide (sg neg (x-y)<0)),.slice A2 k2 c2]) ?_ rfl HF.out;simp [results,Tryz.results216,go_sem,d0,d1]
theorem int64_one (neg:Bool) (A:Option Addr) (n c:Nat) (l:List Nat) (hnc:n≤c) (hm:n≤10000000000):∃ (v:Int) (b:Bool),(∀ w,Wat w A n l→Calls Tryz.prog 138 #[.agg #[.bool neg,.slice A n c]] w fun e w'=>e=.returned (.tuple #[.int .i64 v,.bool b])∧Below w.heap.size w w')∧(b=true→v=sg neg (val l)∧Fits (sg neg (val l))):=by
 by_cases hz:Fits (sg neg (val l))
 ·exact ⟨_,true,fun w h=>int64_yes neg A n c l w h hnc (by omega) hz,fun _=>⟨rfl,hz⟩⟩
 ·exact ⟨0,false,fun w h=>int64_no neg A n c l w h hnc (by omega) hz,fun h=>by simp at h⟩
theorem ov_nots (x y s:Int) (hx:Fits x) (hy:Fits y) (hs:Fits s) (h:(x<0↔¬ y<0)∧(x<0↔¬ s<0)):decide (0≤bits .and .i64 (bits .xor .i64 x y) (bits .xor .i64 x s))=false:=by
 rw [bits_and,bits_xor,bits_xor,BitVec.ofInt_toInt,BitVec.ofInt_toInt];refine decide_eq_false ?_;have hm:((BitVec.ofInt 64 x ^^^ BitVec.ofInt 64 y) &&& (BitVec.ofInt 64 x ^^^ BitVec.ofInt 64 s)).msb=true:=by
  rw [BitVec.msb_and,BitVec.msb_xor,BitVec.msb_xor,msb_of x hx,msb_of y hy,msb_of s hs];by_cases h1:x<0<;>by_cases h2:y<0<;>by_cases h3:s<0<;>simp [h1,h2,h3]<;>omega
 rw [BitVec.msb_eq_toInt] at hm;simpa using hm
theorem add_any (neg neg':Bool) (A A':Option Addr) (n n' c c':Nat) (l l':List Nat) (w:World) (h:Wat w A n l) (h':Wat w A' n' l') (hnc:n≤c) (hnc':n'≤c') (hm:n≤10000000000) (hm':n'≤10000000000) :
  Calls Tryz.prog 191 #[.agg #[.bool neg,.slice A n c],.agg #[.bool neg',.slice A' n' c']] w (RetZ w (sg neg (val l)+sg neg' (val l'))):=by
 by_cases hall:(Fits (sg neg (val l))∧Fits (sg neg' (val l')))∧Fits (sg neg (val l)+sg neg' (val l'))
 ·exact add_fits neg neg' A A' n n' c c' l l' w h h' hnc hnc' hm hm' hall.1.1 hall.1.2 hall.2
 obtain ⟨v1,b1,T1,hT1⟩:=int64_one neg A n c l hnc hm;obtain ⟨v2,b2,T2,hT2⟩:=int64_one neg' A' n' c' l' hnc' hm';have T1:=Hj (fun W hW=>T1 W hW);have T2:=Hj (fun W hW=>T2 W hW);have hle:=h.trim_le;have hle':=h'.trim_le;have hzs:sg neg (val l)+sg neg' (val l')=sg neg (val l)+sg neg' (val l'):=by rfl
 have HSS0:=Hj (fun W (hW:Wat W A n l∧Wat W A' n' l')=>signedSum_any neg neg' A A' _ _ c c' (val l) (val l') W hW.1.trim hW.2.trim (by omega) (by omega));rw [hzs] at HSS0;have hno:b1=true→b2=true→Fits v1∧Fits v2∧¬ Fits (v1+v2):=fun h1 h2=>by
  obtain ⟨e1,f1⟩:=hT1 h1;obtain ⟨e2,f2⟩:=hT2 h2;rw [e1,e2];exact ⟨f1,f2,fun f=>hall ⟨⟨f1,f2⟩,f⟩⟩
 have HNO:=Hj hno;generalize sg neg (val l)+sg neg' (val l')=zz at *;clear hall hT1 hT2 hzs hno;go_enter Tryz.func191,Tryz.ntmps191
 go_wp2_with fail
 obtain ⟨hB0,hB1,hB2,hBW,hsz⟩:=pre3 w 40 #[.bool neg,.slice A n c] 40 #[.bool neg',.slice A' n' c'] 40 #[.bool false,.slice none 0 0];generalize ((w.alloc (.cells #[.bool neg,.slice A n c] 40)).alloc (.cells #[.bool neg',.slice A' n' c'] 40)).alloc (.cells #[.bool false,.slice none 0 0] 40)=W at *;have HSZ:=Hj hsz;clear hsz;refine (T1.out W (h.below hBW)).mono ?_;rintro e w1 ⟨rfl,hb1⟩;have hB0:=hB0.below hb1 (by have:=HSZ.out;omega);have hB1:=hB1.below hb1 (by have:=HSZ.out;omega);have hB2:=hB2.below hb1 (by have:=HSZ.out;omega);have hb1:Below w.heap.size w w1:=hBW.trans (hb1.mono hBW.size);have hsz1:w.heap.size+1+1+1≤w1.heap.size:=hB2.lt;obtain ⟨c2,c3,-,-⟩:=hB1.two;clear hBW
 go_wp2_with fail
 refine (T2.out w1 (h'.below hb1)).mono ?_;rintro e w2 ⟨rfl,hb2⟩;have hB0:=hB0.below hb2 (by omega);have hB1:=hB1.below hb2 (by omega);have hB2:=hB2.below hb2 (by omega);have hBW:Below w.heap.size w w2:=hb1.trans (hb2.mono hb1.size);have hsz2:w.heap.size+1+1+1≤w2.heap.size:=hB2.lt;clear hb1 hsz1 c2 c3 HSZ T1 T2 hb2;have HSZ:=Hj hsz2;obtain ⟨W,rfl⟩:∃ v,v=w2:=⟨_,rfl⟩;have s4:=RS.start hB2;have hw:∀ w',RS (w.heap.size+1+1) 40 W w'→Wat w' A n l∧Wat w' A' n' l':=fun w' hk=>⟨h.below (hBW.trans (hk.1.mono (by omega))),h'.below (hBW.trans (hk.1.mono (by omega)))⟩;have HWW:=Hj hw;have HSS:=Hj (fun W' (hW':RS (w.heap.size+1+1) 40 W W')=>HSS0.out W' (HWW.out W' hW'));clear hw HSS0 hsz2;have hgo:(b1=false)∨(b1=true∧b2=false)∨(b1=true∧b2=true):=by cases b1<;>cases b2<;>simp
 rcases hgo with rfl|⟨rfl,rfl⟩|⟨rfl,rfl⟩
 ·clear HNO
  go_wp2_with fail
  have hS:∀ w',RS (w.heap.size+1+1) 40 W w'→(w'.cell? ⟨w.heap.size,0,none⟩=some (.bool neg)∧w'.cell? ⟨w.heap.size,1,none⟩=some (.slice A n c)∧w'.cell? ⟨w.heap.size+1,0,none⟩=some (.bool neg')∧w'.cell? ⟨w.heap.size+1,1,none⟩=some (.slice A' n' c'))∧RS (w.heap.size+1+1) 40 W w':=fun w' hk=>⟨⟨(hk.blk hB0 (by omega)).cell 0,(hk.blk hB0 (by omega)).cell 1,(hk.blk hB1 (by omega)).cell 0,(hk.blk hB1 (by omega)).cell 1⟩,hk⟩;have HS:=Hj hS;clear hS;clear hB0 hB1 hB2
  go_region_held3 (fun w'=>(w'.cell? ⟨w.heap.size,0,none⟩=some (.bool neg)∧w'.cell? ⟨w.heap.size,1,none⟩=some (.slice A n c)∧w'.cell? ⟨w.heap.size+1,0,none⟩=some (.bool neg')∧w'.cell? ⟨w.heap.size+1,1,none⟩=some (.slice A' n' c'))∧RS (w.heap.size+1+1) 40 W w')
   (with_reducible first|(refine HS.out _ ?_;assumption)|(refine HS.out _ (RS.drew ?_);assumption)|(refine' HS.out _ (RS.drew (And.right ?_));rotate_left;assumption)|(refine' HS.out _ (RS.set (And.right ?_) _ _);rotate_left;assumption))
   (first
    | (go_at_call_of 141 (Value.slice A n c);have hk:=And.right ‹_∧RS (w.heap.size+1+1) 40 W _›;refine (trim_any A n c l _ (HWW.out _ hk).1 hnc (by omega)).mono ?_;rintro e w5 ⟨rfl,rfl⟩)
    | (go_at_call_of 141 (Value.slice A' n' c');have hk:=And.right ‹_∧RS (w.heap.size+1+1) 40 W _›;refine (trim_any A' n' c' l' _ (HWW.out _ hk).2 hnc' (by omega)).mono ?_;rintro e w6 ⟨rfl,rfl⟩)
    | (go_at_call 216;have hk:=And.right ‹_∧RS (w.heap.size+1+1) 40 W _›;refine (HSS.out _ hk).mono ?_;rintro e w3 ⟨A3,k3,c3,rfl,hk3,hW3,hF3,hb3⟩;have hz3:=hk.1.size;have hr3:=hk.call hb3;obtain ⟨_,_,c0,c1,f0,f1⟩:=hr3.two))
  have hfin:=retZ_close hBW (by omega) (by have:=HSZ.out;omega) hr3 hk3 hW3 hF3;obtain ⟨d0,d1,-,-⟩:=(hr3.done (.bool (decide (zz<0))) (.slice A3 k3 c3)).two;have HF:=Hj hfin;clear hfin;go_wp2;refine bodyPost_ret (v:=.agg #[.bool (decide (zz<0)),.slice A3 k3 c3]) ?_ rfl HF.out;simp [results,Tryz.results191,go_sem,d0,d1]
 ·clear HNO
  go_wp2_with fail
  have hS:∀ w',RS (w.heap.size+1+1) 40 W w'→(w'.cell? ⟨w.heap.size,0,none⟩=some (.bool neg)∧w'.cell? ⟨w.heap.size,1,none⟩=some (.slice A n c)∧w'.cell? ⟨w.heap.size+1,0,none⟩=some (.bool neg')∧w'.cell? ⟨w.heap.size+1,1,none⟩=some (.slice A' n' c'))∧RS (w.heap.size+1+1) 40 W w':=fun w' hk=>⟨⟨(hk.blk hB0 (by omega)).cell 0,(hk.blk hB0 (by omega)).cell 1,(hk.blk hB1 (by omega)).cell 0,(hk.blk hB1 (by omega)).cell 1⟩,hk⟩;have HS:=Hj hS;clear hS;clear hB0 hB1 hB2
  go_region_held3 (fun w'=>(w'.cell? ⟨w.heap.size,0,none⟩=some (.bool neg)∧w'.cell? ⟨w.heap.size,1,none⟩=some (.slice A n c)∧w'.cell? ⟨w.heap.size+1,0,none⟩=some (.bool neg')∧w'.cell? ⟨w.heap.size+1,1,none⟩=some (.slice A' n' c'))∧RS (w.heap.size+1+1) 40 W w')
   (with_reducible first|(refine HS.out _ ?_;assumption)|(refine HS.out _ (RS.drew ?_);assumption)|(refine' HS.out _ (RS.drew (And.right ?_));rotate_left;assumption)|(refine' HS.out _ (RS.set (And.right ?_) _ _);rotate_left;assumption))
   (first
    | (go_at_call_of 141 (Value.slice A n c);have hk:=And.right ‹_∧RS (w.heap.size+1+1) 40 W _›;refine (trim_any A n c l _ (HWW.out _ hk).1 hnc (by omega)).mono ?_;rintro e w5 ⟨rfl,rfl⟩)
    | (go_at_call_of 141 (Value.slice A' n' c');have hk:=And.right ‹_∧RS (w.heap.size+1+1) 40 W _›;refine (trim_any A' n' c' l' _ (HWW.out _ hk).2 hnc' (by omega)).mono ?_;rintro e w6 ⟨rfl,rfl⟩)
    | (go_at_call 216;have hk:=And.right ‹_∧RS (w.heap.size+1+1) 40 W _›;refine (HSS.out _ hk).mono ?_;rintro e w3 ⟨A3,k3,c3,rfl,hk3,hW3,hF3,hb3⟩;have hz3:=hk.1.size;have hr3:=hk.call hb3;obtain ⟨_,_,c0,c1,f0,f1⟩:=hr3.two))
  have hfin:=retZ_close hBW (by omega) (by have:=HSZ.out;omega) hr3 hk3 hW3 hF3;obtain ⟨d0,d1,-,-⟩:=(hr3.done (.bool (decide (zz<0))) (.slice A3 k3 c3)).two;have HF:=Hj hfin;clear hfin;go_wp2;refine bodyPost_ret (v:=.agg #[.bool (decide (zz<0)),.slice A3 k3 c3]) ?_ rfl HF.out;simp [results,Tryz.results191,go_sem,d0,d1]
 ·obtain ⟨hv1,hv2,hv3⟩:=HNO.out rfl rfl;obtain ⟨s,hs⟩:∃ s,IntKind.i64.wrap (v1+v2)=s:=⟨_,rfl⟩;have hs':wrap64 (v1+v2)=s:=by rw [← hs,IntKind.wrap_i64];unfold wrap64;omega
  have hov:decide (0≤bits .and .i64 (bits .xor .i64 v1 s) (bits .xor .i64 v2 s))=false:=ov_not v1 v2 s hv1 hv2 (by rw [← hs];exact wrap_fits _) (by rw [← hs,IntKind.wrap_i64];unfold Fits at *;omega);clear HNO hv1 hv2 hv3
  go_wp2_with fail
  have hS:∀ w',RS (w.heap.size+1+1) 40 W w'→(w'.cell? ⟨w.heap.size,0,none⟩=some (.bool neg)∧w'.cell? ⟨w.heap.size,1,none⟩=some (.slice A n c)∧w'.cell? ⟨w.heap.size+1,0,none⟩=some (.bool neg')∧w'.cell? ⟨w.heap.size+1,1,none⟩=some (.slice A' n' c'))∧RS (w.heap.size+1+1) 40 W w':=fun w' hk=>⟨⟨(hk.blk hB0 (by omega)).cell 0,(hk.blk hB0 (by omega)).cell 1,(hk.blk hB1 (by omega)).cell 0,(hk.blk hB1 (by omega)).cell 1⟩,hk⟩;have HS:=Hj hS;clear hS;clear hB0 hB1 hB2
  go_region_held3 (fun w'=>(w'.cell? ⟨w.heap.size,0,none⟩=some (.bool neg)∧w'.cell? ⟨w.heap.size,1,none⟩=some (.slice A n c)∧w'.cell? ⟨w.heap.size+1,0,none⟩=some (.bool neg')∧w'.cell? ⟨w.heap.size+1,1,none⟩=some (.slice A' n' c'))∧RS (w.heap.size+1+1) 40 W w')
   (with_reducible first|(refine HS.out _ ?_;assumption)|(refine HS.out _ (RS.drew ?_);assumption)|(refine' HS.out _ (RS.drew (And.right ?_));rotate_left;assumption)|(refine' HS.out _ (RS.set (And.right ?_) _ _);rotate_left;assumption))
   (first
    | (go_at_call_of 141 (Value.slice A n c);have hk:=And.right ‹_∧RS (w.heap.size+1+1) 40 W _›;refine (trim_any A n c l _ (HWW.out _ hk).1 hnc (by omega)).mono ?_;rintro e w5 ⟨rfl,rfl⟩)
    | (go_at_call_of 141 (Value.slice A' n' c');have hk:=And.right ‹_∧RS (w.heap.size+1+1) 40 W _›;refine (trim_any A' n' c' l' _ (HWW.out _ hk).2 hnc' (by omega)).mono ?_;rintro e w6 ⟨rfl,rfl⟩)
    | (go_at_call 216;have hk:=And.right ‹_∧RS (w.heap.size+1+1) 40 W _›;refine (HSS.out _ hk).mono ?_;rintro e w3 ⟨A3,k3,c3,rfl,hk3,hW3,hF3,hb3⟩;have hz3:=hk.1.size;have hr3:=hk.call hb3;obtain ⟨_,_,c0,c1,f0,f1⟩:=hr3.two))
  have hfin:=retZ_close hBW (by omega) (by have:=HSZ.out;omega) hr3 hk3 hW3 hF3;obtain ⟨d0,d1,-,-⟩:=(hr3.done (.bool (decide (zz<0))) (.slice A3 k3 c3)).two;have HF:=Hj hfin;clear hfin;go_wp2;refine bodyPost_ret (v:=.agg #[.bool (decide (zz<0)),.slice A3 k3 c3]) ?_ rfl HF.out;simp [results,Tryz.results191,go_sem,d0,d1]
theorem sub_any (neg neg':Bool) (A A':Option Addr) (n n' c c':Nat) (l l':List Nat) (w:World) (h:Wat w A n l) (h':Wat w A' n' l') (hnc:n≤c) (hnc':n'≤c') (hm:n≤10000000000) (hm':n'≤10000000000) :
  Calls Tryz.prog 193 #[.agg #[.bool neg,.slice A n c],.agg #[.bool neg',.slice A' n' c']] w (RetZ w (sg neg (val l)-sg neg' (val l'))):=by
 by_cases hall:(Fits (sg neg (val l))∧Fits (sg neg' (val l')))∧Fits (sg neg (val l)-sg neg' (val l'))
 ·exact sub_fits neg neg' A A' n n' c c' l l' w h h' hnc hnc' hm hm' hall.1.1 hall.1.2 hall.2
 obtain ⟨v1,b1,T1,hT1⟩:=int64_one neg A n c l hnc hm;obtain ⟨v2,b2,T2,hT2⟩:=int64_one neg' A' n' c' l' hnc' hm';have T1:=Hj (fun W hW=>T1 W hW);have T2:=Hj (fun W hW=>T2 W hW);have hle:=h.trim_le;have hle':=h'.trim_le;have hzs:sg neg (val l)+sg (!neg') (val l')=sg neg (val l)-sg neg' (val l'):=by unfold sg;cases neg<;>cases neg'<;>simp<;>omega
 have HSS0:=Hj (fun W (hW:Wat W A n l∧Wat W A' n' l')=>signedSum_any neg (!neg') A A' _ _ c c' (val l) (val l') W hW.1.trim hW.2.trim (by omega) (by omega));rw [hzs] at HSS0;have hno:b1=true→b2=true→Fits v1∧Fits v2∧¬ Fits (v1-v2):=fun h1 h2=>by
  obtain ⟨e1,f1⟩:=hT1 h1;obtain ⟨e2,f2⟩:=hT2 h2;rw [e1,e2];exact ⟨f1,f2,fun f=>hall ⟨⟨f1,f2⟩,f⟩⟩
 have HNO:=Hj hno;generalize sg neg (val l)-sg neg' (val l')=zz at *;clear hall hT1 hT2 hzs hno;go_enter Tryz.func193,Tryz.ntmps193
 go_wp2_with fail
 obtain ⟨hB0,hB1,hB2,hBW,hsz⟩:=pre3 w 40 #[.bool neg,.slice A n c] 40 #[.bool neg',.slice A' n' c'] 40 #[.bool false,.slice none 0 0];generalize ((w.alloc (.cells #[.bool neg,.slice A n c] 40)).alloc (.cells #[.bool neg',.slice A' n' c'] 40)).alloc (.cells #[.bool false,.slice none 0 0] 40)=W at *;have HSZ:=Hj hsz;clear hsz;refine (T1.out W (h.below hBW)).mono ?_;rintro e w1 ⟨rfl,hb1⟩;have hB0:=hB0.below hb1 (by have:=HSZ.out;omega);have hB1:=hB1.below hb1 (by have:=HSZ.out;omega);have hB2:=hB2.below hb1 (by have:=HSZ.out;omega);have hb1:Below w.heap.size w w1:=hBW.trans (hb1.mono hBW.size);have hsz1:w.heap.size+1+1+1≤w1.heap.size:=hB2.lt;obtain ⟨c2,c3,-,-⟩:=hB1.two;clear hBW
 go_wp2_with fail
 refine (T2.out w1 (h'.below hb1)).mono ?_;rintro e w2 ⟨rfl,hb2⟩;have hB0:=hB0.below hb2 (by omega);have hB1:=hB1.below hb2 (by omega);have hB2:=hB2.below hb2 (by omega);have hBW:Below w.heap.size w w2:=hb1.trans (hb2.mono hb1.size);have hsz2:w.heap.size+1+1+1≤w2.heap.size:=hB2.lt;clear hb1 hsz1 c2 c3 HSZ T1 T2 hb2;have HSZ:=Hj hsz2;obtain ⟨W,rfl⟩:∃ v,v=w2:=⟨_,rfl⟩;have s4:=RS.start hB2;have hw:∀ w',RS (w.heap.size+1+1) 40 W w'→Wat w' A n l∧Wat w' A' n' l':=fun w' hk=>⟨h.below (hBW.trans (hk.1.mono (by omega))),h'.below (hBW.trans (hk.1.mono (by omega)))⟩;have HWW:=Hj hw;have HSS:=Hj (fun W' (hW':RS (w.heap.size+1+1) 40 W W')=>HSS0.out W' (HWW.out W' hW'));clear hw HSS0 hsz2;have hgo:(b1=false)∨(b1=true∧b2=false)∨(b1=true∧b2=true):=by cases b1<;>cases b2<;>simp
 rcases hgo with rfl|⟨rfl,rfl⟩|⟨rfl,rfl⟩
 ·clear HNO
  go_wp2_with fail
  have hS:∀ w',RS (w.heap.size+1+1) 40 W w'→(w'.cell? ⟨w.heap.size,0,none⟩=some (.bool neg)∧w'.cell? ⟨w.heap.size,1,none⟩=some (.slice A n c)∧w'.cell? ⟨w.heap.size+1,0,none⟩=some (.bool neg')∧w'.cell? ⟨w.heap.size+1,1,none⟩=some (.slice A' n' c'))∧RS (w.heap.size+1+1) 40 W w':=fun w' hk=>⟨⟨(hk.blk hB0 (by omega)).cell 0,(hk.blk hB0 (by omega)).cell 1,(hk.blk hB1 (by omega)).cell 0,(hk.blk hB1 (by omega)).cell 1⟩,hk⟩;have HS:=Hj hS;clear hS;clear hB0 hB1 hB2
  go_region_held3 (fun w'=>(w'.cell? ⟨w.heap.size,0,none⟩=some (.bool neg)∧w'.cell? ⟨w.heap.size,1,none⟩=some (.slice A n c)∧w'.cell? ⟨w.heap.size+1,0,none⟩=some (.bool neg')∧w'.cell? ⟨w.heap.size+1,1,none⟩=some (.slice A' n' c'))∧RS (w.heap.size+1+1) 40 W w')
   (with_reducible first|(refine HS.out _ ?_;assumption)|(refine HS.out _ (RS.drew ?_);assumption)|(refine' HS.out _ (RS.drew (And.right ?_));rotate_left;assumption)|(refine' HS.out _ (RS.set (And.right ?_) _ _);rotate_left;assumption))
   (first
    | (go_at_call_of 141 (Value.slice A n c);have hk:=And.right ‹_∧RS (w.heap.size+1+1) 40 W _›;refine (trim_any A n c l _ (HWW.out _ hk).1 hnc (by omega)).mono ?_;rintro e w5 ⟨rfl,rfl⟩)
    | (go_at_call_of 141 (Value.slice A' n' c');have hk:=And.right ‹_∧RS (w.heap.size+1+1) 40 W _›;refine (trim_any A' n' c' l' _ (HWW.out _ hk).2 hnc' (by omega)).mono ?_;rintro e w6 ⟨rfl,rfl⟩)
    | (go_at_call 216;have hk:=And.right ‹_∧RS (w.heap.size+1+1) 40 W _›;refine (HSS.out _ hk).mono ?_;rintro e w3 ⟨A3,k3,c3,rfl,hk3,hW3,hF3,hb3⟩;have hz3:=hk.1.size;have hr3:=hk.call hb3;obtain ⟨_,_,c0,c1,f0,f1⟩:=hr3.two))
  have hfin:=retZ_close hBW (by omega) (by have:=HSZ.out;omega) hr3 hk3 hW3 hF3;obtain ⟨d0,d1,-,-⟩:=(hr3.done (.bool (decide (zz<0))) (.slice A3 k3 c3)).two;have HF:=Hj hfin;clear hfin;go_wp2;refine bodyPost_ret (v:=.agg #[.bool (decide (zz<0)),.slice A3 k3 c3]) ?_ rfl HF.out;simp [results,Tryz.results193,go_sem,d0,d1]
 ·clear HNO
  go_wp2_with fail
  have hS:∀ w',RS (w.heap.size+1+1) 40 W w'→(w'.cell? ⟨w.heap.size,0,none⟩=some (.bool neg)∧w'.cell? ⟨w.heap.size,1,none⟩=some (.slice A n c)∧w'.cell? ⟨w.heap.size+1,0,none⟩=some (.bool neg')∧w'.cell? ⟨w.heap.size+1,1,none⟩=some (.slice A' n' c'))∧RS (w.heap.size+1+1) 40 W w':=fun w' hk=>⟨⟨(hk.blk hB0 (by omega)).cell 0,(hk.blk hB0 (by omega)).cell 1,(hk.blk hB1 (by omega)).cell 0,(hk.blk hB1 (by omega)).cell 1⟩,hk⟩;have HS:=Hj hS;clear hS;clear hB0 hB1 hB2
  go_region_held3 (fun w'=>(w'.cell? ⟨w.heap.size,0,none⟩=some (.bool neg)∧w'.cell? ⟨w.heap.size,1,none⟩=some (.slice A n c)∧w'.cell? ⟨w.heap.size+1,0,none⟩=some (.bool neg')∧w'.cell? ⟨w.heap.size+1,1,none⟩=some (.slice A' n' c'))∧RS (w.heap.size+1+1) 40 W w')
   (with_reducible first|(refine HS.out _ ?_;assumption)|(refine HS.out _ (RS.drew ?_);assumption)|(refine' HS.out _ (RS.drew (And.right ?_));rotate_left;assumption)|(refine' HS.out _ (RS.set (And.right ?_) _ _);rotate_left;assumption))
   (first
    | (go_at_call_of 141 (Value.slice A n c);have hk:=And.right ‹_∧RS (w.heap.size+1+1) 40 W _›;refine (trim_any A n c l _ (HWW.out _ hk).1 hnc (by omega)).mono ?_;rintro e w5 ⟨rfl,rfl⟩)
    | (go_at_call_of 141 (Value.slice A' n' c');have hk:=And.right ‹_∧RS (w.heap.size+1+1) 40 W _›;refine (trim_any A' n' c' l' _ (HWW.out _ hk).2 hnc' (by omega)).mono ?_;rintro e w6 ⟨rfl,rfl⟩)
    | (go_at_call 216;have hk:=And.right ‹_∧RS (w.heap.size+1+1) 40 W _›;refine (HSS.out _ hk).mono ?_;rintro e w3 ⟨A3,k3,c3,rfl,hk3,hW3,hF3,hb3⟩;have hz3:=hk.1.size;have hr3:=hk.call hb3;obtain ⟨_,_,c0,c1,f0,f1⟩:=hr3.two))
  have hfin:=retZ_close hBW (by omega) (by have:=HSZ.out;omega) hr3 hk3 hW3 hF3;obtain ⟨d0,d1,-,-⟩:=(hr3.done (.bool (decide (zz<0))) (.slice A3 k3 c3)).two;have HF:=Hj hfin;clear hfin;go_wp2;refine bodyPost_ret (v:=.agg #[.bool (decide (zz<0)),.slice A3 k3 c3]) ?_ rfl HF.out;simp [results,Tryz.results193,go_sem,d0,d1]
 ·obtain ⟨hv1,hv2,hv3⟩:=HNO.out rfl rfl;obtain ⟨s,hs⟩:∃ s,IntKind.i64.wrap (v1-v2)=s:=⟨_,rfl⟩;have hs':wrap64 (v1-v2)=s:=by rw [← hs,IntKind.wrap_i64];unfold wrap64;omega
  have hov:decide (0≤bits .and .i64 (bits .xor .i64 v1 v2) (bits .xor .i64 v1 s))=false:=ov_nots v1 v2 s hv1 hv2 (by rw [← hs];exact wrap_fits _) (by rw [← hs,IntKind.wrap_i64];unfold Fits at *;omega);clear HNO hv1 hv2 hv3
  go_wp2_with fail
  have hS:∀ w',RS (w.heap.size+1+1) 40 W w'→(w'.cell? ⟨w.heap.size,0,none⟩=some (.bool neg)∧w'.cell? ⟨w.heap.size,1,none⟩=some (.slice A n c)∧w'.cell? ⟨w.heap.size+1,0,none⟩=some (.bool neg')∧w'.cell? ⟨w.heap.size+1,1,none⟩=some (.slice A' n' c'))∧RS (w.heap.size+1+1) 40 W w':=fun w' hk=>⟨⟨(hk.blk hB0 (by omega)).cell 0,(hk.blk hB0 (by omega)).cell 1,(hk.blk hB1 (by omega)).cell 0,(hk.blk hB1 (by omega)).cell 1⟩,hk⟩;have HS:=Hj hS;clear hS;clear hB0 hB1 hB2
  go_region_held3 (fun w'=>(w'.cell? ⟨w.heap.size,0,none⟩=some (.bool neg)∧w'.cell? ⟨w.heap.size,1,none⟩=some (.slice A n c)∧w'.cell? ⟨w.heap.size+1,0,none⟩=some (.bool neg')∧w'.cell? ⟨w.heap.size+1,1,none⟩=some (.slice A' n' c'))∧RS (w.heap.size+1+1) 40 W w')
   (with_reducible first|(refine HS.out _ ?_;assumption)|(refine HS.out _ (RS.drew ?_);assumption)|(refine' HS.out _ (RS.drew (And.right ?_));rotate_left;assumption)|(refine' HS.out _ (RS.set (And.right ?_) _ _);rotate_left;assumption))
   (first
    | (go_at_call_of 141 (Value.slice A n c);have hk:=And.right ‹_∧RS (w.heap.size+1+1) 40 W _›;refine (trim_any A n c l _ (HWW.out _ hk).1 hnc (by omega)).mono ?_;rintro e w5 ⟨rfl,rfl⟩)
    | (go_at_call_of 141 (Value.slice A' n' c');have hk:=And.right ‹_∧RS (w.heap.size+1+1) 40 W _›;refine (trim_any A' n' c' l' _ (HWW.out _ hk).2 hnc' (by omega)).mono ?_;rintro e w6 ⟨rfl,rfl⟩)
    | (go_at_call 216;have hk:=And.right ‹_∧RS (w.heap.size+1+1) 40 W _›;refine (HSS.out _ hk).mono ?_;rintro e w3 ⟨A3,k3,c3,rfl,hk3,hW3,hF3,hb3⟩;have hz3:=hk.1.size;have hr3:=hk.call hb3;obtain ⟨_,_,c0,c1,f0,f1⟩:=hr3.two))
  have hfin:=retZ_close hBW (by omega) (by have:=HSZ.out;omega) hr3 hk3 hW3 hF3;obtain ⟨d0,d1,-,-⟩:=(hr3.done (.bool (decide (zz<0))) (.slice A3 k3 c3)).two;have HF:=Hj hfin;clear hfin;go_wp2;refine bodyPost_ret (v:=.agg #[.bool (decide (zz<0)),.slice A3 k3 c3]) ?_ rfl HF.out;simp [results,Tryz.results193,go_sem,d0,d1]
theorem addOK_any (M:Nat):AddOK M:=fun neg neg' A A' n n' c c' l l' w h h' hnc hnc' hm hm' _ _=>add_any neg neg' A A' n n' c c' l l' w h h' hnc hnc' hm hm'
theorem subOK_any (M:Nat):SubOK M:=fun neg neg' A A' n n' c c' l l' w h h' hnc hnc' hm hm' _ _=>sub_any neg neg' A A' n n' c c' l l' w h h' hnc hnc' hm hm'
theorem divWords_one (A A':Option Addr) (n c c' x y:Nat) (w:World) (h:Wat w A n (digs x)) (h':Wat w A' 1 (digs y)) (hxy:y≤x) (hn2:¬ n≤2) (hy:y≠0) (hn:n≤10000000000) :
  Calls Tryz.prog 200 #[.slice A n c,.slice A' 1 c'] w (RetDiv w x y):=by
 have hc:¬ cmpI x y<0:=by
  rcases Nat.lt_or_ge y x with h1|h1
  ·rw [cmpI_gt (by omega)];decide
  ·rw [cmpI_eq (by omega)];decide
 have T:=compareWords_bel A A' n 1 c c' x y w h h' (by omega) (by omega);generalize cmpI x y=cc at *;have T:=Hj T;have hyB:y<4294967296:=by
  have:=digs_len_le.1 (show (digs y).length≤1 by rw [h'.1];exact Nat.le_refl _);simpa using this
 have hdy:(digs y)[0]?.getD 0=y:=by
  have h1:=val_digs y;have h2:=h'.1
  match hd:digs y,h2 with
  | [d],_ =>
   rw [hd] at h1;simp only [val_cons,val_nil] at h1;simp;omega
 obtain ⟨b',o',rfl,hb',hc'⟩:=h'.2.2 (by omega);have d0:=hc' 0 (by omega);rw [hdy,Nat.add_zero] at d0;have HH:=Hj h;have HY:=Hj (And.intro hyB (And.intro hb' d0));have wy:IntKind.u64.wrap (y:Int)=(y:Int):=by rw [IntKind.wrap_u64];omega
 have i1:¬ (n:Int)≤2:=by omega
 clear h h' hxy hyB hdy hc' hb' d0;go_enter Tryz.func200,Tryz.ntmps200
 go_wp2_with fail
 refine T.out.mono ?_;rintro e w1 ⟨rfl,hb1⟩;have HB1:=Hj hb1;clear T hb1
 go_wp2_with fail
 refine (clone_any A n c (digs x) w1 (HH.out.below HB1.out) (by omega)).mono ?_;rintro e w2 ⟨A2,c2,rfl,hk2,hcm2,hW2,hF2,hb2⟩;obtain ⟨b,o,rfl,hbb,hR2⟩:=Rw.of hW2 hF2 (by omega);have HB2:=Hj (HB1.out.trans (hb2.mono HB1.out.size));have d1:=(HB2.out.cell (p:=⟨b',o',none⟩) HY.out.2.1).trans HY.out.2.2;have T2:=Hj (shortDiv_any b o n c2 y (digs x) w2 hR2 hn (by omega) HY.out.1);have HK:=Hj (And.intro hk2 (show w.heap.size≤b from Nat.le_trans HB1.out.size hbb));clear hk2 hcm2 hW2 hF2 hb2 hbb hR2
 go_wp2_with fail
 refine T2.out.mono ?_;rintro e w3 ⟨p,rfl,hR3,hv3,hx3⟩;clear T2;have hrl:val (digs x) % y<4294967296:=Nat.lt_trans (Nat.mod_lt _ (by omega)) HY.out.1;have hb3:=Bx.below HB2.out hx3 HK.out.2;have hb4:Below w.heap.size w (w3.alloc (.cells #[.int .u32 ((val (digs x) % y:Nat):Int)] 59)):=Below.alloc hb3 hb3.size _;have hwt:=wat_one (w3.alloc (.cells #[.int .u32 ((val (digs x) % y:Nat):Int)] 59)) (val (digs x) % y) hrl 59 w3.heap.size (Blk.new w3 _ _) w.heap.size hb3.size;have hR4:=hR3.below ((Below.refl _ w3).alloc (Nat.le_refl _) (.cells #[.int .u32 ((val (digs x) % y:Nat):Int)] 59)) hR3.2.2.1;have hfin:RetDiv w x y (.returned (.tuple #[.slice (some ⟨b,o,none⟩) n c2,.slice (some ⟨w3.heap.size,0,none⟩) 1 1])) (w3.alloc (.cells #[.int .u32 ((val (digs x) % y:Nat):Int)] 59)) :=
  ⟨_,_,_,p,_,_,_,_,rfl,HK.out.1,Nat.le_refl _,by omega,by omega,hR4.wat,hwt.1,hR4.fresh HK.out.2,hwt.2,by rw [hv3,val_digs],by simp [val_cons,val_nil,val_digs],hb4⟩
 have HF:=Hj hfin;have wr:((val (digs x) % y:Nat):Int) % 4294967296=((val (digs x) % y:Nat):Int):=by omega
 generalize val (digs x) % y=r at *;clear hfin hR4 hwt hb4 hb3 hrl hR3 hv3 hx3 d1;go_wp2;go_ret2;exact HF.out
theorem divWords_long (A A':Option Addr) (n m k c c' x y:Nat) (w:World) (h:Wat w A n (digs x)) (h':Wat w A' (k+2) (digs y)) (hxy:y≤x) (hn2:¬ n≤2) (hle:n=m+(k+2)) (hn:n≤10000000000) :
  Calls Tryz.prog 200 #[.slice A n c,.slice A' (k+2) c'] w (RetDiv w x y):=by
 have hc:¬ cmpI x y<0:=by
  rcases Nat.lt_or_ge y x with h1|h1
  ·rw [cmpI_gt (by omega)];decide
  ·rw [cmpI_eq (by omega)];decide
 have T:=compareWords_bel A A' n (k+2) c c' x y w h h' (by omega) (by omega);generalize cmpI x y=cc at *;have T:=Hj T;have T2:=Hj (fun W (hW:Below w.heap.size w W)=>longDiv_any A A' n k m c c' x y W (h.below hW) (h'.below hW) hle hn);obtain ⟨kk,hkk⟩:∃ kk,kk=k+2:=⟨_,rfl⟩;have i2:((kk:Int) == 1)=false:=by simp;omega
 have i3:¬ kk=1:=by omega
 rw [← hkk] at T T2 ⊢;have i1:¬ (n:Int)≤2:=by omega
 clear h h' hxy hle hkk;go_enter Tryz.func200,Tryz.ntmps200
 go_wp2_with fail
 refine T.out.mono ?_;rintro e w1 ⟨rfl,hb1⟩;have HB1:=Hj hb1;clear T hb1
 go_wp2_with fail
 refine (T2.out w1 HB1.out).mono ?_;rintro e w2 ⟨A1,n1,c1,q,A2,n2,c2,r,rfl,k1,k2,k3,k4,k5,k6,k7,k8,k9,k10,k11⟩;have hfin:RetDiv w x y (.returned (.tuple #[.slice A1 n1 c1,.slice A2 n2 c2])) w2 :=
  ⟨_,_,_,q,_,_,_,r,rfl,k1,k2,k3,k4,k5,k6,k7.mono HB1.out.size,k8.mono HB1.out.size,k9,k10,HB1.out.trans (k11.mono HB1.out.size)⟩
 have HF:=Hj hfin;clear hfin k1 k2 k3 k4 k5 k6 k7 k8 k9 k10 k11 T2;go_wp2;go_ret2;exact HF.out
theorem divW_any (M:Nat):DivW M:=by
 intro A A' n n' c c' x y w h h' _ hy hn hn';rcases Nat.lt_or_ge x y with hlt|hge
 ·exact divWords_less A A' n n' c c' x y w h h' hlt hn hn'
 ·rcases Nat.lt_or_ge x 18446744073709551616 with h64|h64
  ·exact divWords_two A A' n n' c c' x y w h h' hge h64 hy hn hn'
  ·have hn2:¬ n≤2:=fun hh=>by
    have:=digs_len_le.1 (show (digs x).length≤2 by rw [h.1];exact hh);omega
   have hmono:=digs_len_mono hge;rw [h.1,h'.1] at hmono
   match n',h',hmono with
   | 0,h',_ =>
    have:=List.eq_nil_of_length_eq_zero h'.1;have h2:=val_digs y;rw [this] at h2;exact absurd h2.symm hy
   | 1,h',_=>exact divWords_one A A' n c c' x y w h h' hge hn2 hy hn
   | k+2,h',hmono =>
    obtain ⟨m,hm⟩:∃ m,n=m+(k+2):=⟨n-(k+2),by omega⟩;exact divWords_long A A' n m k c c' x y w h h' hge hn2 hm hn
theorem wok_any (M:Nat) (hM:∀ x,x<M→(digs x).length≤10000000000):WOK M:=⟨addOK_any M,subOK_any M,divW_any M,hM⟩
theorem wok_words (K:Nat) (hK:K≤10000000000):WOK (4294967296 ^ K):=wok_any _ fun x hx=>Nat.le_trans (digs_len_le.2 hx) hK
def SrcAt (w:World) (A:Option Addr) (m size:Nat) (news:List Value):Prop :=
 news.length=m*size∧(∀ u∈news,u.oneCell'=true)∧((A=none∧m=0)∨∃ ad,A=some ad∧∀ j u,news[j]?=some u→w.cell? (ad.add j)=some u)
def Own (base:Nat) (e:TypeId) (size:Nat) (w:World) (A:Option Addr) (n c:Nat) (xs:List Value):Prop:=w.ownsRow base e size (.slice A n c) n xs
def Kept (w w':World) (A:Option Addr):Prop:=w.heap.size≤w'.heap.size∧∀ k,k<w.heap.size→A.map (fun a=>a.block)≠some k→w'.heap[k]?=w.heap[k]?
theorem run_append_my {P:Program} {w:World} {base:Nat} {t ty e:TypeId} {i:TypeInfo} {z:Value} {size bytes:Nat} (ht:P.underlying t=some (.slice e)) (hi:P.info? e=some i) (hz:i.zero=some z)
  (hsize:i.size=size) (hby:i.bytes=bytes) (hzs:z.cells.size=size) (hsz:0<size)
  {B:Option Addr} {n cb:Nat} {xs:List Value} (hown:Own base e size w B n cb xs) {A:Option Addr} {m c:Nat} {news:List Value} (hs:SrcAt w A m size news)
  (h63:n+m≤maxLen) (hbytes:(n+m)*bytes≤140737488355328) (hbase:base≤w.heap.size) :
  ∃ B' cb' w',(Builtin.append_ #[t,t] ty #[.slice B n cb,.slice A m c]).run P w=.ok (.slice B' (n+m) cb') w'∧Own base e size w' B' (n+m) cb' (xs ++ news)∧Below base w w'∧Kept w w' B:=by
 obtain ⟨h1,h2,h3⟩:=hs;rcases h3 with ⟨rfl,rfl⟩|⟨ad,rfl,h3⟩
 ·have e1:news=[]:=List.eq_nil_of_length_eq_zero (by simpa using h1);subst e1;refine ⟨B,cb,w,?_,by simpa using hown,Below.refl _ _,Nat.le_refl _,fun _ _ _=>rfl⟩;have hle:n≤cb:=by
   rcases hown.2 with ⟨h4,_⟩|⟨g,cap,cur,h4,_,_,hnc,_⟩
   ·simp at h4;omega
   ·simp at h4;omega
  rcases hown.2 with ⟨h4,h5⟩|⟨g,cap,cur,h4,_,_,hnc,_⟩
  ·simp at h4;obtain ⟨rfl,rfl,rfl⟩:=h4;simp [Builtin.append_,run_underlying ht,sizeOf,typeInfo,hi,Builtin.lenOf,Builtin.firstCells]
  ·simp at h4;obtain ⟨rfl,rfl⟩:=h4;simp [Builtin.append_,run_underlying ht,sizeOf,typeInfo,hi,Builtin.lenOf,Builtin.firstCells,hnc,storeCells]
 ·obtain ⟨v',w',hr,ho,hg,_⟩:=run_append_own (P:=P) w base t ty e i z size bytes ht hi hz hsize hby hzs hsz _ n xs hown ad m c news h1 h3 h2 h63 hbytes hbase;have hB:Below base w w':=⟨hg.os,hg.tape,hg.output,hg.size,fun k hk=>hg.block k (by omega) fun he=>by have:=(hown.lt k he.symm).1;omega⟩;have hK:Kept w w' B:=⟨hg.size,fun k hk hne=>hg.block k hk fun he=>hne (by
   cases B with
   | none=>simp [Value.ownBlock] at he
   | some b=>simpa [Value.ownBlock] using he.symm)⟩
  rcases ho.2 with ⟨rfl,h5⟩|⟨g,cap,cur,rfl,_⟩
  ·exact ⟨none,0,w',by rw [hr,h5],by rw [h5] at ho ⊢;exact ho,hB,hK⟩
  ·exact ⟨some ⟨g,0,none⟩,cap,w',hr,ho,hB,hK⟩
theorem wp_append_my {P:Program} {w:World} {o:Oper} {a:Act} {K:Act→World→Prop} {Q:Exit→Act→World→Prop} (s x:Operand) (t:TypeId)
  (ho:o.op=.call { callee:=.builtin .append,args:=#[s,x],argTypes:=#[t,t] })
  {base:Nat} {e:TypeId} {i:TypeInfo} {z:Value} {size bytes:Nat} (ht:P.underlying t=some (.slice e)) (hi:P.info? e=some i) (hz:i.zero=some z)
  (hsize:i.size=size) (hby:i.bytes=bytes) (hzs:z.cells.size=size) (hsz:0<size)
  {B:Option Addr} {n cb:Nat} {xs:List Value} (hss:a.eval s=.slice B n cb) (hown:Own base e size w B n cb xs) {A:Option Addr} {m c:Nat} {news:List Value} (hx:a.eval x=.slice A m c) (hs:SrcAt w A m size news)
  (h63:n+m≤maxLen) (hbytes:(n+m)*bytes≤140737488355328) (hbase:base≤w.heap.size)
  (h:∀ B' cb' w',Own base e size w' B' (n+m) cb' (xs ++ news)→Below base w w'→Kept w w' B→K (a.put o.dst (.slice B' (n+m) cb')) w'):o.wp P a w K Q:=by
 obtain ⟨B',cb',w',hr,h2,h3,h4⟩:=run_append_my (P:=P) (ty:=o.type) (c:=c) ht hi hz hsize hby hzs hsz hown hs h63 hbytes hbase;unfold Oper.wp execOp;simp only [ho,resolve,invoke,builtin,Sem.run_bind,Sem.run_pure,Result.andThen_ok,List.map_toArray,List.map_cons,List.map_nil,hss,hx,hr];exact h B' cb' w' h2 h3 h4
theorem step_append_my {P:Program} {w:World} {ops:Array Oper} {o:Oper} {a:Act} {K:Act→World→Prop} {Q:Exit→Act→World→Prop} {E:Prop} (hw:Region.wanted o (yielded ops a.tmps)=true) (s x:Operand) (t:TypeId)
  (ho:o.op=.call { callee:=.builtin .append,args:=#[s,x],argTypes:=#[t,t] })
  {base:Nat} {e:TypeId} {i:TypeInfo} {z:Value} {size bytes:Nat} (ht:P.underlying t=some (.slice e)) (hi:P.info? e=some i) (hz:i.zero=some z)
  (hsize:i.size=size) (hby:i.bytes=bytes) (hzs:z.cells.size=size) (hsz:0<size)
  {B:Option Addr} {n cb:Nat} {xs:List Value} (hss:a.eval s=.slice B n cb) (hown:Own base e size w B n cb xs) {A:Option Addr} {m c:Nat} {news:List Value} (hx:a.eval x=.slice A m c) (hs:SrcAt w A m size news)
  (h63:n+m≤maxLen) (hbytes:(n+m)*bytes≤140737488355328) (hbase:base≤w.heap.size)
  (h:∀ B' cb' w',Own base e size w' B' (n+m) cb' (xs ++ news)→Below base w w'→Kept w w' B→K (a.put o.dst (.slice B' (n+m) cb')) w') :
  if Region.wanted o (yielded ops a.tmps)=true then Oper.wp P o a w K Q else E:=by
 rw [if_pos hw];exact wp_append_my s x t ho ht hi hz hsize hby hzs hsz hss hown hx hs h63 hbytes hbase h
theorem Own.keep {base:Nat} {e:TypeId} {size:Nat} {w w':World} {A:Option Addr} {n c:Nat} {xs:List Value} (h:Own base e size w A n c xs) (hb:Below w.heap.size w w'):Own base e size w' A n c xs:=by
 refine ⟨h.1,?_⟩;rcases h.2 with h2|⟨g,cap,cur,h2,h3,h4,h5⟩
 ·exact Or.inl h2
 ·exact Or.inr ⟨g,cap,cur,h2,h3,(hb.block g (Array.getElem?_eq_some_iff.1 h4).1).trans h4,h5⟩
theorem SrcAt.below {w w':World} {A:Option Addr} {m size:Nat} {news:List Value} (h:SrcAt w A m size news) (hb:Below w.heap.size w w'):SrcAt w' A m size news:=by
 refine ⟨h.1,h.2.1,?_⟩;rcases h.2.2 with h3|⟨ad,h3,h4⟩
 ·exact Or.inl h3
 ·exact Or.inr ⟨ad,h3,fun j u hu=>(hb.cell (World.block_lt_of_cell? w _ (h4 j u hu))).trans (h4 j u hu)⟩
theorem slice_lo {P:Program} {t e:TypeId} (ht:P.underlying t=some (.slice e)) {i:TypeInfo} (hi:P.info? e=some i) (A:Option Addr) (n c j:Nat) (hj:j≤c) :
  ∃ A1,(∀ W,(Instr.sliceAt t (.slice A n c) none (some (.int .i64 (j:Int))) none).run P W=.ok (.slice A1 j c) W)∧∀ b o,A=some ⟨b,o,none⟩→A1=some ⟨b,o,none⟩:=by
 refine ⟨if c=0 then A else A.map (·.add 0),fun W=>?_,?_⟩
 ·simp [Instr.sliceAt,Instr.slice,run_underlying ht,go_sem,hj,sizeOf,typeInfo,hi]
 ·rintro b o rfl;simp [addr_add]
theorem Own.made {base:Nat} {e:TypeId} {size:Nat} (w:World) (hb:base≤w.heap.size):Own base e size (w.alloc (.cells #[] e)) (some ⟨w.heap.size,0,none⟩) 0 0 [] :=
 World.ownsRow_made w #[] 0 hb (Nat.zero_le _) (by simp)
theorem Blk.src {w:World} {g:Nat} {t:TypeId} {cs:Array Value} {m size:Nat} (h:Blk w g t cs) (hs:cs.size=m*size) (h1:∀ u∈cs.toList,u.oneCell'=true):SrcAt w (some ⟨g,0,none⟩) m size cs.toList :=
 ⟨by simpa using hs,h1,Or.inr ⟨_,rfl,World.news_of_block h⟩⟩
theorem Own.nil (base:Nat) (e:TypeId) (size:Nat) (w:World):Own base e size w none 0 0 []:=⟨by simp,Or.inl ⟨rfl,rfl⟩⟩
theorem Own.far {base base':Nat} {e e':TypeId} {size size':Nat} {w w':World} {A B:Option Addr} {n c m d:Nat} {xs ys:List Value} (h:Own base e size w A n c xs) (h':Own base' e' size' w B m d ys) (hne:e≠e') (hk:Kept w w' B):Own base e size w' A n c xs:=by
 refine ⟨h.1,?_⟩;rcases h.2 with h2|⟨g,cap,cur,h2,h3,h4,h5⟩
 ·exact Or.inl h2
 ·refine Or.inr ⟨g,cap,cur,h2,h3,(hk.2 g (Array.getElem?_eq_some_iff.1 h4).1 fun hB=>?_).trans h4,h5⟩;rcases h'.2 with ⟨h6,_⟩|⟨g',cap',cur',h6,_,h7,_⟩
  ·simp at h6;rw [h6.1] at hB;simp at hB
  ·simp at h6;rw [h6.1] at hB;simp at hB;rw [hB,h4] at h7;simp at h7;exact hne h7.2
theorem Own.aside {base:Nat} {e:TypeId} {size:Nat} {w:World} {A:Option Addr} {n c:Nat} {xs:List Value} (h:Own base e size w A n c xs) {p:Addr} (hp:p.block<base) (v:Value):Own base e size (w.setCell p v) A n c xs:=by
 refine ⟨h.1,?_⟩;rcases h.2 with h2|⟨g,cap,cur,h2,h3,h4,h5⟩
 ·exact Or.inl h2
 ·exact Or.inr ⟨g,cap,cur,h2,h3,Blk.far (t:=e) (cs:=cur) h4 (by omega) v,h5⟩
theorem wpList_append_my {P:Program} {w:World} {ops:Array Oper} {rest:List Oper} {o:Oper} {a:Act} {Q:Exit→Act→World→Prop} (hg:o.guard=none) (s x:Operand) (t:TypeId)
  (ho:o.op=.call { callee:=.builtin .append,args:=#[s,x],argTypes:=#[t,t] })
  {base:Nat} {e:TypeId} {i:TypeInfo} {z:Value} {size bytes:Nat} (ht:P.underlying t=some (.slice e)) (hi:P.info? e=some i) (hz:i.zero=some z)
  (hsize:i.size=size) (hby:i.bytes=bytes) (hzs:z.cells.size=size) (hsz:0<size)
  {B:Option Addr} {n cb:Nat} {xs:List Value} (hss:a.eval s=.slice B n cb) (hown:Own base e size w B n cb xs) {A:Option Addr} {m c:Nat} {news:List Value} (hx:a.eval x=.slice A m c) (hs:SrcAt w A m size news)
  (h63:n+m≤maxLen) (hbytes:(n+m)*bytes≤140737488355328) (hbase:base≤w.heap.size)
  (h:∀ B' cb' w',Own base e size w' B' (n+m) cb' (xs ++ news)→Below base w w'→Kept w w' B→wpList P ops Q rest (a.put o.dst (.slice B' (n+m) cb')) w') :
  wpList P ops Q (o :: rest) a w :=
 wpList_plain hg fun K hK=>wp_append_my s x t ho ht hi hz hsize hby hzs hsz hss hown hx hs h63 hbytes hbase fun B' cb' w' h1 h2 h3=>hK _ _ (h B' cb' w' h1 h2 h3)
theorem Kp.alloc {W w':World} (h:Kp W w') (o:Obj):Kp W (w'.alloc o):=Below.alloc h (Below.size h) o
theorem Kp.set {W w':World} (h:Kp W w') {p:Addr} (hp:W.heap.size≤p.block) (v:Value):Kp W (w'.setCell p v):=Below.setCell h hp v
theorem Blk.three {w:World} {g:Nat} {t:TypeId} {a b c:Value} (h:Blk w g t #[a,b,c]):w.cell? ⟨g,0,none⟩=some a∧w.cell? ⟨g,1,none⟩=some b∧w.cell? ⟨g,2,none⟩=some c:=⟨h.cell 0,h.cell 1,h.cell 2⟩
theorem getD_mem {α:Type} {l:List α} {k:Nat} {d:α} (h:k<l.length):l[k]?.getD d∈l:=by
 rw [List.getElem?_eq_getElem h];exact List.getElem_mem h
def IsAt (w:World) (A:Option Addr) (n:Nat) (xs:List Int):Prop :=
 xs.length=n∧(n≠0→∃ b o,A=some ⟨b,o,none⟩∧b<w.heap.size∧∀ j,j<n→w.cell? ⟨b,o+j,none⟩=some (.int .i64 (xs[j]?.getD 0)))
theorem IsAt.below {w w':World} {A:Option Addr} {n:Nat} {xs:List Int} (h:IsAt w A n xs) (hb:Below w.heap.size w w'):IsAt w' A n xs:=by
 refine ⟨h.1,fun hn=>?_⟩;obtain ⟨b,o,rfl,hlt,hc⟩:=h.2 hn;exact ⟨b,o,rfl,Nat.lt_of_lt_of_le hlt hb.size,fun j hj=>(hb.cell hlt).trans (hc j hj)⟩
theorem IsAt.src {w:World} {A:Option Addr} {n:Nat} {xs:List Int} (h:IsAt w A n xs):SrcAt w A n 1 (xs.map (Value.int .i64)):=by
 refine ⟨by simp [h.1],fun u hu=>by obtain ⟨x,_,rfl⟩:=List.mem_map.1 hu;rfl,?_⟩;by_cases hn:n=0
 ·subst hn;have e:xs=[]:=List.eq_nil_of_length_eq_zero h.1;subst e;cases A with
  | none=>exact Or.inl ⟨rfl,rfl⟩
  | some ad=>exact Or.inr ⟨ad,rfl,by simp⟩
 ·obtain ⟨b,o,rfl,hlt,hc⟩:=h.2 hn;refine Or.inr ⟨_,rfl,fun j u hu=>?_⟩;have hj:j<xs.length:=by
   have:=(List.getElem?_eq_some_iff.1 hu).1;simpa using this
  rw [addr_add,hc j (by have:=h.1;omega),← hu];simp [hj]
theorem Own.ints {base:Nat} {e:TypeId} {w:World} {A:Option Addr} {n c:Nat} {xs:List Int} (h:Own base e 1 w A n c (xs.map (Value.int .i64))):IsAt w A n xs:=by
 have hl:xs.length=n:=by have:=h.1;simpa using this
 refine ⟨hl,fun hn=>?_⟩;obtain ⟨g,cap,hv,hb,hlt⟩:=World.ownsRow.form h (by omega);simp at hv;obtain ⟨rfl,rfl⟩:=hv;refine ⟨g,0,rfl,hlt,fun j hj=>?_⟩;rw [Nat.zero_add,World.ownsRow.cellAt h j (by omega)];simp [show j<xs.length by omega]
def IRow (w:World) (g:Nat) (xs:List Int):Prop:=Blk w g 2 (xs.map (Value.int .i64)).toArray
theorem IRow.cell {w:World} {g:Nat} {xs:List Int} (h:IRow w g xs) {i:Nat} (hi:i<xs.length):w.cell? ⟨g,i,none⟩=some (.int .i64 (xs[i]?.getD 0)):=by
 rw [Blk.cell h i];simp [hi]
theorem IRow.frozen {w:World} {g:Nat} {xs:List Int} (h:IRow w g xs) (i:Nat):w.frozen? ⟨g,i,none⟩=false:=Blk.frozen h i
theorem IRow.set {w:World} {g:Nat} {xs:List Int} (h:IRow w g xs) (i:Nat) (v:Int):IRow (w.setCell ⟨g,i,none⟩ (.int .i64 v)) g (xs.set i v):=by
 have:=Blk.set h i (.int .i64 v);unfold IRow;simpa [List.map_set] using this
theorem IRow.below {w w':World} {g:Nat} {xs:List Int} (h:IRow w g xs) (hb:Below w.heap.size w w'):IRow w' g xs:=Blk.below h hb (Blk.lt h)
theorem IRow.alloc {w:World} {g:Nat} {xs:List Int} (h:IRow w g xs) (o:Obj):IRow (w.alloc o) g xs:=Blk.alloc h o
theorem IRow.start (w:World) (n:Nat):IRow (w.alloc (.cells (Array.replicate n (.int .i64 0)) 2)) w.heap.size (List.replicate n 0):=by
 unfold IRow;have:=Blk.new w 2 (Array.replicate n (.int .i64 0));simpa using this
theorem IRow.at {w:World} {g:Nat} {xs:List Int} {n:Nat} (h:IRow w g xs) (hl:xs.length=n):IsAt w (some ⟨g,0,none⟩) n xs :=
 ⟨hl,fun _=>⟨g,0,rfl,Blk.lt h,fun j hj=>by rw [Nat.zero_add];exact h.cell (by omega)⟩⟩
theorem made_ints (n:Nat):madeCells #[.int .i64 0] n=((List.replicate n (0:Int)).map (Value.int .i64)).toArray:=by
 apply Array.ext
 ·simp [size_madeCells]
 ·intro i h1 h2;simp [madeCells,Nat.mod_one]
theorem info_int64:(Tryz.prog.info? 2).map (fun i=>(i.zero,i.size,i.bytes))=some (some (.int .i64 0),1,8):=by kernel_rfl
theorem run_make_ints (k:Nat) (hk:k≤1000000000) (w:World) :
  (Instr.makeSlice 62 (.int .i64 (k:Int)) (.int .i64 (k:Int))).run Tryz.prog w=.ok (.slice (some ⟨w.heap.size,0,none⟩) k k) (w.alloc (.cells ((List.replicate k (0:Int)).map (Value.int .i64)).toArray 2)):=by
 obtain ⟨i0,hi,hz0,hz1,hz2⟩:=info_parts info_int64;have h:=run_make (P:=Tryz.prog) w 62 2 i0 _ Tryz.underlying62 hi hz0 .i64 .i64 k k (by omega) (Int.le_refl _) (by rw [hz2];omega) (by omega);rw [h,hz1];simp only [Int.toNat_natCast,Value.cells,Nat.mul_one];rw [made_ints]
end Go.Proofs.YtjajigkacccdgaaGreat
