/-
Lemmas of the walk; no further conditions.
-/
import Derived.Test.YtjajigkacccdgaaGreatTiAC
set_option linter.unusedVariables false
set_option linter.unusedSimpArgs false
set_option maxRecDepth 100000
set_option maxHeartbeats 16000000
namespace Go.Proofs.YtjajigkacccdgaaGreat
open Go.RowKit
open Wd
def qnum (na da:Int):Int:=if da<0 then -na else na
def qden (da:Int):Int:=if da=0 then 1 else if da<0 then -da else da
theorem qden_pos (da:Int):0<qden da:=by unfold qden;split<;>(try split)<;>omega
def Small (z:Int):Prop:=-2147483648<z∧z<2147483648
theorem int64_any (neg:Bool) (A:Option Addr) (n c:Nat) (l:List Nat) (w:World) (h:Wat w A n l) (hnc:n≤c) (hm:n≤1000000000000) :
  Calls Tryz.prog 138 #[.agg #[.bool neg,.slice A n c]] w fun e w'=>∃ x b,e=.returned (.tuple #[.int .i64 x,.bool b])∧(b=true→x=sg neg (val l)∧Fits (sg neg (val l)))∧(b=false→x=0∧¬ Fits (sg neg (val l)))∧Below w.heap.size w w':=by
 by_cases hz:Fits (sg neg (val l))
 ·exact (int64_yes neg A n c l w h hnc hm hz).mono fun _ _ ⟨he,hb⟩=>⟨_,_,he,fun _=>⟨rfl,hz⟩,(fun hh=>by cases hh),hb⟩
 ·exact (int64_no neg A n c l w h hnc hm hz).mono fun _ _ ⟨he,hb⟩=>⟨_,_,he,(fun hh=>by cases hh),fun _=>⟨rfl,hz⟩,hb⟩
def ShortPost (w:World) (na da:Int) (e:Ending) (w':World):Prop :=
 ((Small na∧Small da∧e=.returned (.tuple #[.int .i64 (qnum na da),.int .i64 (qden da),.bool true]))∨(¬ (Small na∧Small da)∧e=.returned (.tuple #[.int .i64 0,.int .i64 0,.bool false])))∧Below w.heap.size w w'
theorem short_any (neg neg':Bool) (A A':Option Addr) (n n' c c':Nat) (l l':List Nat) (w:World) (h:Wat w A n l) (h':Wat w A' n' l') (hnc:n≤c) (hnc':n'≤c') (hm:n≤10000000000) (hm':n'≤10000000000) :
  Calls Tryz.prog 90 #[.agg #[.bool neg,.slice A n c,.bool neg',.slice A' n' c']] w (ShortPost w (sg neg (val l)) (sg neg' (val l'))):=by
 have T1:=fun W hW=>int64_any neg A n c l W hW hnc (by omega);have T2:=fun W hW=>int64_any neg' A' n' c' l' W hW hnc' (by omega);generalize sg neg (val l)=na at *;generalize sg neg' (val l')=da at *;have T1:=Hj T1;have T2:=Hj T2;go_enter Tryz.func90,Tryz.ntmps90
 go_wp2_with fail
 obtain ⟨hB0,hBW,hsz⟩:=pre1 w 42 #[.bool neg,.slice A n c,.bool neg',.slice A' n' c'];generalize w.alloc (.cells #[.bool neg,.slice A n c,.bool neg',.slice A' n' c'] 42)=W at *;have HSZ:=Hj hsz;clear hsz;refine (T1.out W (h.below hBW)).mono ?_;rintro e w1 ⟨x,b1,rfl,hx1,hx2,hb1⟩;have hB0:=hB0.below hb1 (by have:=HSZ.out;omega);have hb1:Below w.heap.size w w1:=hBW.trans (hb1.mono hBW.size);obtain ⟨c0,c1,c2,c3,-,-,-,-⟩:=hB0.four;have HX1:=Hj hx1;have HX2:=Hj hx2;clear hBW HSZ hx1 hx2
 go_wp2_with fail
 refine (T2.out w1 (h'.below hb1)).mono ?_;rintro e w2 ⟨y,b2,rfl,hy1,hy2,hb2⟩;have hb2:Below w.heap.size w w2:=hb1.trans (hb2.mono hb1.size);have HY1:=Hj hy1;have HY2:=Hj hy2;clear hy1 hy2 hb1 T1 T2 hB0 c0 c1 c2 c3;cases b1
 ·have hns:¬ (Small na∧Small da):=fun hh=>(HX2.out rfl).2 (by unfold Small at hh;unfold Fits;omega);have HNS:=Hj hns;clear hns;cases b2
  all_goals
   go_wp2;go_ret3;exact ⟨.inr ⟨HNS.out,rfl⟩,hb2⟩
 ·obtain ⟨rfl,hfx⟩:=HX1.out rfl;cases b2
  ·have hns:¬ (Small x∧Small da):=fun hh=>(HY2.out rfl).2 (by unfold Small at hh;unfold Fits;omega);have HNS:=Hj hns;have HFX:=Hj hfx;clear hns hfx;go_wp2;go_ret3;exact ⟨.inr ⟨HNS.out,rfl⟩,hb2⟩
  ·obtain ⟨rfl,hfy⟩:=HY1.out rfl;have HFX:=Hj hfx;have HFY:=Hj hfy;clear hfx hfy HX1 HX2 HY1 HY2;by_cases hs:Small x∧Small y
   ·obtain ⟨⟨h1,h2⟩,h3,h4⟩:=hs;rcases Int.lt_trichotomy y 0 with hy|hy|hy
    ·have e1:qnum x y = -x:=by unfold qnum;rw [if_pos hy]
     have e2:qden y = -y:=by unfold qden;rw [if_neg (by omega),if_pos hy]
     have hfin:ShortPost w x y (.returned (.tuple #[.int .i64 (-x),.int .i64 (-y),.bool true])) w2:=⟨.inl ⟨⟨h1,h2⟩,⟨h3,h4⟩,by rw [e1,e2]⟩,hb2⟩;have HF:=Hj hfin;have hy0:(y == 0)=false:=by simp;omega
     clear hfin e1 e2;go_wp2;go_ret3;exact HF.out
    ·subst hy;have e1:qnum x 0=x:=by unfold qnum;rw [if_neg (by omega)]
     have hfin:ShortPost w x 0 (.returned (.tuple #[.int .i64 x,.int .i64 1,.bool true])) w2:=⟨.inl ⟨⟨h1,h2⟩,⟨h3,h4⟩,by rw [e1];rfl⟩,hb2⟩;have HF:=Hj hfin;clear hfin e1;go_wp2;go_ret3;exact HF.out
    ·have e1:qnum x y=x:=by unfold qnum;rw [if_neg (by omega)]
     have e2:qden y=y:=by unfold qden;rw [if_neg (by omega),if_neg (by omega)]
     have hfin:ShortPost w x y (.returned (.tuple #[.int .i64 x,.int .i64 y,.bool true])) w2:=⟨.inl ⟨⟨h1,h2⟩,⟨h3,h4⟩,by rw [e1,e2]⟩,hb2⟩;have HF:=Hj hfin;have hy0:(y == 0)=false:=by simp;omega
     clear hfin e1 e2;go_wp2;go_ret3;exact HF.out
   ·have HNS:=Hj hs;have hc:x≤-2147483648∨(-2147483648<x∧2147483648≤x)∨(-2147483648<x∧x<2147483648∧y≤-2147483648)∨(-2147483648<x∧x<2147483648∧-2147483648<y∧2147483648≤y):=by
     unfold Small at hs;omega
    clear hs;rcases hc with g1|⟨g1,g2⟩|⟨g1,g2,g3⟩|⟨g1,g2,g3,g4⟩
    all_goals
     go_wp2;go_ret3;exact ⟨.inr ⟨HNS.out,rfl⟩,hb2⟩
def RZ (g:Nat) (t:TypeId) (W w':World):Prop:=Below g W w'∧(∃ x y,Blk w' g t #[x,y])∧∃ x y,Blk w' (g+1) t #[x,y]
section
variable {g:Nat} {t:TypeId} {W w w':World}
theorem RZ.start {x y x' y':Value} (h:Blk W g t #[x,y]) (h':Blk W (g+1) t #[x',y']):RZ g t W W:=⟨Below.refl _ _,⟨x,y,h⟩,x',y',h'⟩
theorem RZ.drew (h:RZ g t W w):RZ g t W w.drew:=⟨h.1.drew,h.2⟩
theorem RZ.call (h:RZ g t W w) (hb:Below w.heap.size w w'):RZ g t W w':=by
 obtain ⟨h1,⟨x,y,h2⟩,x',y',h3⟩:=h;exact ⟨h1.trans (hb.mono (Nat.le_of_lt h2.lt)),⟨x,y,h2.below hb h2.lt⟩,x',y',h3.below hb h3.lt⟩
theorem RZ.setA (h:RZ g t W w) (a b:Value):RZ g t W ((w.setCell ⟨g,0,none⟩ a).setCell ⟨g,1,none⟩ b):=by
 obtain ⟨h1,⟨x,y,h2⟩,x',y',h3⟩:=h;exact ⟨below_set2 h1 (Nat.le_refl _) a b,⟨a,b,h2.set2 a b⟩,x',y',(h3.far (by simp) _).far (by simp) _⟩
theorem RZ.setB (h:RZ g t W w) (a b:Value):RZ g t W ((w.setCell ⟨g+1,0,none⟩ a).setCell ⟨g+1,1,none⟩ b):=by
 obtain ⟨h1,⟨x,y,h2⟩,x',y',h3⟩:=h;exact ⟨below_set2 h1 (by omega) a b,⟨x,y,(h2.far (by simp) _).far (by simp) _⟩,a,b,h3.set2 a b⟩
theorem RZ.blk {g':Nat} {t':TypeId} {cs:Array Value} (h:RZ g t W w) (hg:Blk W g' t' cs) (hlt:g'<g):Blk w g' t' cs:=hg.below h.1 hlt
theorem RZ.four (h:RZ g t W w):∃ x y x' y',(w.cell? ⟨g,0,none⟩=some x∧w.cell? ⟨g,1,none⟩=some y∧w.frozen? ⟨g,0,none⟩=false∧w.frozen? ⟨g,1,none⟩=false) ∧
  w.cell? ⟨g+1,0,none⟩=some x'∧w.cell? ⟨g+1,1,none⟩=some y'∧w.frozen? ⟨g+1,0,none⟩=false∧w.frozen? ⟨g+1,1,none⟩=false:=by
 obtain ⟨h1,⟨x,y,h2⟩,x',y',h3⟩:=h;exact ⟨x,y,x',y',h2.two,h3.two⟩
theorem RZ.done (h:RZ g t W w) (a b a' b':Value):Blk ((((w.setCell ⟨g,0,none⟩ a).setCell ⟨g,1,none⟩ b).setCell ⟨g+1,0,none⟩ a').setCell ⟨g+1,1,none⟩ b') g t #[a,b] ∧
  Blk ((((w.setCell ⟨g,0,none⟩ a).setCell ⟨g,1,none⟩ b).setCell ⟨g+1,0,none⟩ a').setCell ⟨g+1,1,none⟩ b') (g+1) t #[a',b']:=by
 obtain ⟨h1,⟨x,y,h2⟩,x',y',h3⟩:=h;exact ⟨((h2.set2 a b).far (by simp) _).far (by simp) _,(((h3.far (by simp) _).far (by simp) _).set2 a' b')⟩
end
theorem Wat.set2two {w:World} {g base:Nat} {A:Option Addr} {n:Nat} {l:List Nat} (a b a' b':Value) (h:Wat w A n l) (hf:Fresh base w A n) (hb:g+1<base) :
  Wat ((((w.setCell ⟨g,0,none⟩ a).setCell ⟨g,1,none⟩ b).setCell ⟨g+1,0,none⟩ a').setCell ⟨g+1,1,none⟩ b') A n l∧Fresh base ((((w.setCell ⟨g,0,none⟩ a).setCell ⟨g,1,none⟩ b).setCell ⟨g+1,0,none⟩ a').setCell ⟨g+1,1,none⟩ b') A n :=
 ⟨(((h.setFar hf (p:=⟨g,0,none⟩) (by simp;omega) a).setFar (hf.set _ a) (p:=⟨g,1,none⟩) (by simp;omega) b).setFar ((hf.set _ a).set _ b) (p:=⟨g+1,0,none⟩) (by simp;omega) a').setFar (((hf.set _ a).set _ b).set _ a') (p:=⟨g+1,1,none⟩) (by simp;omega) b',
  (((hf.set _ a).set _ b).set _ a').set _ b'⟩
def RetParts (w:World) (num den:Int) (e:Ending) (w':World):Prop :=
 ∃ m1 B1 j1 d1 r1 m2 B2 j2 d2 r2,e=.returned (.tuple #[.agg #[.bool m1,.slice B1 j1 d1],.agg #[.bool m2,.slice B2 j2 d2]])∧j1≤d1∧j2≤d2∧j1≤10000000000∧j2≤10000000000 ∧
  Wat w' B1 j1 r1∧Wat w' B2 j2 r2∧sg m1 (val r1)=num∧sg m2 (val r2)=den∧Below w.heap.size w w'
theorem parts_any (neg neg':Bool) (A A':Option Addr) (n n' c c':Nat) (l l':List Nat) (w:World) (h:Wat w A n l) (h':Wat w A' n' l') (hnc:n≤c) (hnc':n'≤c') (hm:n≤10000000000) (hm':n'≤10000000000) :
  Calls Tryz.prog 93 #[.agg #[.bool neg,.slice A n c,.bool neg',.slice A' n' c']] w (RetParts w (qnum (sg neg (val l)) (sg neg' (val l'))) (qden (sg neg' (val l')))):=by
 have T:=fun W hW=>sign_any neg' A' n' c' l' W hW hnc' (by omega);generalize hde:sg neg' (val l')=da at *;have HDE:=Hj hde;clear hde;have T:=Hj T;go_enter Tryz.func93,Tryz.ntmps93
 go_wp2_with fail
 obtain ⟨hB0,hB1,hB2,hBW,hsz⟩:=pre3 w 42 #[.bool neg,.slice A n c,.bool neg',.slice A' n' c'] 40 #[.bool false,.slice none 0 0] 40 #[.bool false,.slice none 0 0];generalize ((w.alloc (.cells #[.bool neg,.slice A n c,.bool neg',.slice A' n' c'] 42)).alloc (.cells #[.bool false,.slice none 0 0] 40)).alloc (.cells #[.bool false,.slice none 0 0] 40)=W at *;have HSZ:=Hj hsz;clear hsz;refine (T.out W (h'.below hBW)).mono ?_;rintro e W1 ⟨rfl,hb1⟩;have hB0:=hB0.below hb1 (by have:=HSZ.out;omega);have hB1:=hB1.below hb1 (by have:=HSZ.out;omega);have hB2:=hB2.below hb1 (by have:=HSZ.out;omega);have hBW:Below w.heap.size w W1:=hBW.trans (hb1.mono hBW.size);have hsz:w.heap.size+1+1+1≤W1.heap.size:=hB2.lt;have s4:=RZ.start hB1 hB2;clear hb1 HSZ T;rcases Int.lt_trichotomy da 0 with hda|hda|hda
 ·have e2:qden da = -da:=by unfold qden;rw [if_neg (by omega),if_pos hda]
  have e1:qnum (sg neg (val l)) da = -(sg neg (val l)):=by unfold qnum;rw [if_pos hda]
  rw [show cmpI da 0 = -1 from cmpI_lt hda];have E1:=Hj e1;have E2:=Hj e2;clear e1 e2;have hw:∀ w',RZ (w.heap.size+1) 40 W1 w'→Wat w' A n l∧Wat w' A' n' l':=fun w' hk=>⟨h.below (hBW.trans (hk.1.mono (by omega))),h'.below (hBW.trans (hk.1.mono (by omega)))⟩;have N1:=fun w' (hk:RZ (w.heap.size+1) 40 W1 w')=>neg_any neg A n c l w' (hw w' hk).1 hnc (by omega);have N2:=fun w' (hk:RZ (w.heap.size+1) 40 W1 w')=>neg_any neg' A' n' c' l' w' (hw w' hk).2 hnc' (by omega);rw [HDE.out] at N2;have hn8:(-(sg neg (val l))).natAbs=val l:=by rw [Int.natAbs_neg,sg_natAbs]
  have hn9:(-da).natAbs=val l':=by rw [← HDE.out,Int.natAbs_neg,sg_natAbs]
  generalize -(sg neg (val l))=z8 at *;generalize -da=z9 at *;have HN8:=Hj hn8;have HN9:=Hj hn9;clear hn8 hn9;have N1:=Hj N1;have N2:=Hj N2;clear hw
  go_wp2_with fail
  have hS:∀ w',RZ (w.heap.size+1) 40 W1 w'→(w'.cell? ⟨w.heap.size,0,none⟩=some (.bool neg)∧w'.cell? ⟨w.heap.size,1,none⟩=some (.slice A n c)∧w'.cell? ⟨w.heap.size,2,none⟩=some (.bool neg')∧w'.cell? ⟨w.heap.size,3,none⟩=some (.slice A' n' c'))∧RZ (w.heap.size+1) 40 W1 w':=fun w' hk=>⟨⟨(hk.blk hB0 (by omega)).cell 0,(hk.blk hB0 (by omega)).cell 1,(hk.blk hB0 (by omega)).cell 2,(hk.blk hB0 (by omega)).cell 3⟩,hk⟩;have HS:=Hj hS;clear hS;clear hB1 hB2
  go_region_held3 (fun w'=>(w'.cell? ⟨w.heap.size,0,none⟩=some (.bool neg)∧w'.cell? ⟨w.heap.size,1,none⟩=some (.slice A n c)∧w'.cell? ⟨w.heap.size,2,none⟩=some (.bool neg')∧w'.cell? ⟨w.heap.size,3,none⟩=some (.slice A' n' c'))∧RZ (w.heap.size+1) 40 W1 w')
   (with_reducible first|(refine HS.out _ ?_;assumption)|(refine HS.out _ (RZ.drew ?_);assumption)|(refine' HS.out _ (RZ.drew (And.right ?_));rotate_left;assumption)|(refine' HS.out _ (RZ.setA (And.right ?_) _ _);rotate_left;assumption)|(refine' HS.out _ (RZ.setB (And.right ?_) _ _);rotate_left;assumption))
   (first
    | (go_at_call_of 140 (Value.agg #[.bool neg,.slice A n c]);have hk:=And.right ‹_∧RZ (w.heap.size+1) 40 W1 _›;refine (N1.out _ hk).mono ?_;rintro e w8 ⟨A8,k8,c8,rfl,hk8,hW8,hF8,hb8⟩;have hz8:=hk.1.size;have hr8:=hk.call hb8)
    | (go_at_call_of 140 (Value.agg #[.bool neg',.slice A' n' c']);have hk:=And.right ‹_∧RZ (w.heap.size+1) 40 W1 _›;refine (N2.out _ hk).mono ?_;rintro e w9 ⟨A9,k9,c9,rfl,hk9,hW9,hF9,hb9⟩;have hz9:=hk.1.size;have hr9:=hk.call hb9;obtain ⟨_,_,_,_,⟨i0,i1,i2,i3⟩,i4,i5,i6,i7⟩:=hr9.four))
  have hF8:=hF8.keep hW8 hb9;have hW8:=hW8.below hb9;have hbz:Below w.heap.size w ((((w9.setCell ⟨w.heap.size+1,0,none⟩ (.bool (decide (z8<0)))).setCell ⟨w.heap.size+1,1,none⟩ (.slice A8 k8 c8)).setCell ⟨w.heap.size+1+1,0,none⟩ (.bool (decide (z9<0)))).setCell ⟨w.heap.size+1+1,1,none⟩ (.slice A9 k9 c9)) :=
   below_set2 (below_set2 (hBW.trans (hr9.1.mono (by omega))) (by omega) _ _) (by omega) _ _
  have hl8:k8≤10000000000:=by rw [← hW8.1,HN8.out];exact Nat.le_trans h.trim_le hm
  have hl9:k9≤10000000000:=by rw [← hW9.1,HN9.out];exact Nat.le_trans h'.trim_le hm'
  have hfin:RetParts w (qnum (sg neg (val l)) da) (qden da) (.returned (.tuple #[.agg #[.bool (decide (z8<0)),.slice A8 k8 c8],.agg #[.bool (decide (z9<0)),.slice A9 k9 c9]])) ((((w9.setCell ⟨w.heap.size+1,0,none⟩ (.bool (decide (z8<0)))).setCell ⟨w.heap.size+1,1,none⟩ (.slice A8 k8 c8)).setCell ⟨w.heap.size+1+1,0,none⟩ (.bool (decide (z9<0)))).setCell ⟨w.heap.size+1+1,1,none⟩ (.slice A9 k9 c9)) :=
   ⟨_,A8,k8,c8,digs z8.natAbs,_,A9,k9,c9,digs z9.natAbs,rfl,hk8,hk9,hl8,hl9,(hW8.set2two _ _ _ _ hF8 (by show _<W1.heap.size;omega)).1,(hW9.set2two _ _ _ _ hF9 (by omega)).1,by rw [val_digs,sg_self];exact E1.out.symm,by rw [val_digs,sg_self];exact E2.out.symm,hbz⟩
  clear hbz hW8 hF8 hW9 hF9;obtain ⟨hd1,hd2⟩:=hr9.done (.bool (decide (z8<0))) (.slice A8 k8 c8) (.bool (decide (z9<0))) (.slice A9 k9 c9);obtain ⟨d0,d1,-,-⟩:=hd1.two;obtain ⟨d2,d3,-,-⟩:=hd2.two;have D0:=Hj d0;have D1:=Hj d1;have D2:=Hj d2;have D3:=Hj d3;have HF:=Hj hfin;clear hd1 hd2 d0 d1 d2 d3 hfin;go_wp2;refine bodyPost_ret (v:=.tuple #[.agg #[.bool (decide (z8<0)),.slice A8 k8 c8],.agg #[.bool (decide (z9<0)),.slice A9 k9 c9]]) ?_ rfl HF.out;have d0:=D0.out;have d1:=D1.out;have d2:=D2.out;have d3:=D3.out;simp [results,Tryz.results93,go_sem,d0,d1,d2,d3]
 ·subst hda;have e2:qden 0=1:=rfl;have e1:qnum (sg neg (val l)) 0=sg neg (val l):=by unfold qnum;rw [if_neg (by omega)]
  rw [show cmpI 0 0=0 from rfl];have E1:=Hj e1;clear e1 e2
  go_wp2_with fail
  have hS:∀ w',RZ (w.heap.size+1) 40 W1 w'→(w'.cell? ⟨w.heap.size,0,none⟩=some (.bool neg)∧w'.cell? ⟨w.heap.size,1,none⟩=some (.slice A n c)∧w'.cell? ⟨w.heap.size,2,none⟩=some (.bool neg')∧w'.cell? ⟨w.heap.size,3,none⟩=some (.slice A' n' c'))∧RZ (w.heap.size+1) 40 W1 w':=fun w' hk=>⟨⟨(hk.blk hB0 (by omega)).cell 0,(hk.blk hB0 (by omega)).cell 1,(hk.blk hB0 (by omega)).cell 2,(hk.blk hB0 (by omega)).cell 3⟩,hk⟩;have HS:=Hj hS;clear hS;clear hB1 hB2
  go_region_held3 (fun w'=>(w'.cell? ⟨w.heap.size,0,none⟩=some (.bool neg)∧w'.cell? ⟨w.heap.size,1,none⟩=some (.slice A n c)∧w'.cell? ⟨w.heap.size,2,none⟩=some (.bool neg')∧w'.cell? ⟨w.heap.size,3,none⟩=some (.slice A' n' c'))∧RZ (w.heap.size+1) 40 W1 w')
   (with_reducible first|(refine HS.out _ ?_;assumption)|(refine HS.out _ (RZ.drew ?_);assumption)|(refine' HS.out _ (RZ.drew (And.right ?_));rotate_left;assumption)|(refine' HS.out _ (RZ.setA (And.right ?_) _ _);rotate_left;assumption)|(refine' HS.out _ (RZ.setB (And.right ?_) _ _);rotate_left;assumption))
   (first
    | (go_at_call 88;have hk:=And.right ‹_∧RZ (w.heap.size+1) 40 W1 _›;refine (fromInt64_any 1 _ (by omega) (by omega)).mono ?_;rintro e w9 ⟨A9,k9,c9,rfl,hk9,hW9,hF9,hb9⟩;have hz9:=hk.1.size;have hr9:=hk.call hb9;obtain ⟨_,_,_,_,⟨i0,i1,i2,i3⟩,i4,i5,i6,i7⟩:=hr9.four))
  have hbz:Below w.heap.size w ((((w9.setCell ⟨w.heap.size+1,0,none⟩ (.bool neg)).setCell ⟨w.heap.size+1,1,none⟩ (.slice A n c)).setCell ⟨w.heap.size+1+1,0,none⟩ (.bool false)).setCell ⟨w.heap.size+1+1,1,none⟩ (.slice A9 k9 c9)) :=
   below_set2 (below_set2 (hBW.trans (hr9.1.mono (by omega))) (by omega) _ _) (by omega) _ _
  have hfin:RetParts w (qnum (sg neg (val l)) 0) (qden 0) (.returned (.tuple #[.agg #[.bool neg,.slice A n c],.agg #[.bool false,.slice A9 k9 c9]])) ((((w9.setCell ⟨w.heap.size+1,0,none⟩ (.bool neg)).setCell ⟨w.heap.size+1,1,none⟩ (.slice A n c)).setCell ⟨w.heap.size+1+1,0,none⟩ (.bool false)).setCell ⟨w.heap.size+1+1,1,none⟩ (.slice A9 k9 c9)) :=
   ⟨neg,A,n,c,l,false,A9,k9,c9,digs 1,rfl,hnc,hk9,hm,by rw [← hW9.1];exact Nat.le_trans (digs_len_le (k:=1).2 (by decide)) (by decide),h.below hbz,(hW9.set2two _ _ _ _ hF9 (by show _<W1.heap.size;omega)).1,E1.out.symm,by rw [val_digs];rfl,hbz⟩
  clear hbz hW9 hF9;obtain ⟨hd1,hd2⟩:=hr9.done (.bool neg) (.slice A n c) (.bool false) (.slice A9 k9 c9);obtain ⟨d0,d1,-,-⟩:=hd1.two;obtain ⟨d2,d3,-,-⟩:=hd2.two;have D0:=Hj d0;have D1:=Hj d1;have D2:=Hj d2;have D3:=Hj d3;have HF:=Hj hfin;clear hd1 hd2 d0 d1 d2 d3 hfin;go_wp2;refine bodyPost_ret (v:=.tuple #[.agg #[.bool neg,.slice A n c],.agg #[.bool false,.slice A9 k9 c9]]) ?_ rfl HF.out;have d0:=D0.out;have d1:=D1.out;have d2:=D2.out;have d3:=D3.out;simp [results,Tryz.results93,go_sem,d0,d1,d2,d3]
 ·have e2:qden da=da:=by unfold qden;rw [if_neg (by omega),if_neg (by omega)]
  have e1:qnum (sg neg (val l)) da=sg neg (val l):=by unfold qnum;rw [if_neg (by omega)]
  rw [show cmpI da 0=1 from cmpI_gt hda];have E1:=Hj e1;have E2:=Hj e2;clear e1 e2
  go_wp2_with fail
  have hr9:=s4;obtain ⟨_,_,_,_,⟨i0,i1,i2,i3⟩,i4,i5,i6,i7⟩:=s4.four;obtain ⟨e0,e1,e2,e3,-,-,-,-⟩:=hB0.four;clear hB0 hB1 hB2;have hbz:Below w.heap.size w ((((W1.setCell ⟨w.heap.size+1,0,none⟩ (.bool neg)).setCell ⟨w.heap.size+1,1,none⟩ (.slice A n c)).setCell ⟨w.heap.size+1+1,0,none⟩ (.bool neg')).setCell ⟨w.heap.size+1+1,1,none⟩ (.slice A' n' c')).drew :=
   (below_set2 (below_set2 hBW (by omega) _ _) (by omega) _ _).drew
  have hfin:RetParts w (qnum (sg neg (val l)) da) (qden da) (.returned (.tuple #[.agg #[.bool neg,.slice A n c],.agg #[.bool neg',.slice A' n' c']])) ((((W1.setCell ⟨w.heap.size+1,0,none⟩ (.bool neg)).setCell ⟨w.heap.size+1,1,none⟩ (.slice A n c)).setCell ⟨w.heap.size+1+1,0,none⟩ (.bool neg')).setCell ⟨w.heap.size+1+1,1,none⟩ (.slice A' n' c')).drew :=
   ⟨neg,A,n,c,l,neg',A',n',c',l',rfl,hnc,hnc',hm,hm',h.below hbz,h'.below hbz,E1.out.symm,by rw [HDE.out];exact E2.out.symm,hbz⟩
  have HFIN:=Hj hfin;have HR9:=Hj hr9;clear hbz hfin hr9 s4
  go_region
  have hfin:=HFIN.out;have hr9:=HR9.out;obtain ⟨hd1,hd2⟩:=hr9.done (.bool neg) (.slice A n c) (.bool neg') (.slice A' n' c');obtain ⟨d0,d1,-,-⟩:=hd1.two;obtain ⟨d2,d3,-,-⟩:=hd2.two;have D0:=Hj d0;have D1:=Hj d1;have D2:=Hj d2;have D3:=Hj d3;have HF:=Hj hfin;clear hd1 hd2 d0 d1 d2 d3 hfin;go_wp2;refine bodyPost_ret (v:=.tuple #[.agg #[.bool neg,.slice A n c],.agg #[.bool neg',.slice A' n' c']]) ?_ rfl HF.out;have d0:=D0.out;have d1:=D1.out;have d2:=D2.out;have d3:=D3.out;simp [results,Tryz.results93,go_sem,d0,d1,d2,d3]
structure WOK (M:Nat):Prop where
 add:AddOK M
 sub:SubOK M
 div:DivW M
 len:∀ x,x<M→(digs x).length≤10000000000
theorem sg_tdiv (neg:Bool) (m g:Nat):(sg neg m).tdiv (g:Int)=sg neg (m / g):=by
 unfold sg;cases neg
 ·simp [Int.ofNat_tdiv]
 ·simp [Int.neg_tdiv,Int.ofNat_tdiv]
theorem reduce_any (M:Nat) (HO:WOK M) (neg neg':Bool) (A A':Option Addr) (n n' c c':Nat) (l l':List Nat) (w:World) (h:Wat w A n l) (h':Wat w A' n' l') (hnc:n≤c) (hnc':n'≤c') (hm:n≤10000000000) (hm':n'≤10000000000)
  (hx:val l<M) (hy:val l'<M) (hpos:0<sg neg' (val l')) :
  Calls Tryz.prog 111 #[.agg #[.bool neg,.slice A n c],.agg #[.bool neg',.slice A' n' c']] w (RetQ w (mkRat (sg neg (val l)) (val l'))):=by
 have hn':neg'=false:=by unfold sg at hpos;cases neg'<;>simp at hpos ⊢;omega
 subst hn';have hD:val l'≠0:=by unfold sg at hpos;simp at hpos;omega
 have en:=mk_num (sg neg (val l)) (val l') hD;have ed:=mk_den (sg neg (val l)) (val l') hD;rw [sg_natAbs] at en ed;rw [sg_tdiv] at en;generalize mkRat (sg neg (val l)) (val l')=q at *;have TS:=fun W hW=>sign_any false A' n' c' l' W hW hnc' (by omega);rw [cmpI_gt hpos] at TS;have TG:=fun W hW hW'=>gcd_any M HO.len HO.div neg false A A' n n' c c' l l' W hW hW' hnc hnc' hm hm' hx hy;have hgp:Nat.gcd (val l) (val l')≠0:=fun hh=>hD (Nat.eq_zero_of_gcd_eq_zero_right hh);have hg1:Nat.gcd (val l) (val l') ∣ val l:=Nat.gcd_dvd_left _ _;have hg2:Nat.gcd (val l) (val l') ∣ val l':=Nat.gcd_dvd_right _ _;have hgl:(digs (Nat.gcd (val l) (val l'))).length≤10000000000:=HO.len _ (Nat.lt_of_le_of_lt (Nat.le_of_dvd (by omega) hg2) hy);have TS:=Hj TS;have TG:=Hj TG;generalize Nat.gcd (val l) (val l')=gg at *;have T1:=fun (A5:Option Addr) (k5 c5:Nat) (W:World) (hW:Wat W A n l) (hW5:Wat W A5 k5 (digs gg)) (hk5:k5≤c5)=>divMod_exact M HO.div neg false A A5 n k5 c c5 l (digs gg) W hW hW5 hnc hk5 hm (by rw [← hW5.1];exact hgl) hx (by rw [val_digs];exact hgp) (by rw [val_digs];exact hg1);have T2:=fun (A5:Option Addr) (k5 c5:Nat) (W:World) (hW:Wat W A' n' l') (hW5:Wat W A5 k5 (digs gg)) (hk5:k5≤c5)=>divMod_exact M HO.div false false A' A5 n' k5 c' c5 l' (digs gg) W hW hW5 hnc' hk5 hm' (by rw [← hW5.1];exact hgl) hy (by rw [val_digs];exact hgp) (by rw [val_digs];exact hg2);rw [val_digs,show (neg != false)=neg by cases neg<;>rfl,← en] at T1;rw [val_digs,show (false != false)=false from rfl,← ed,show sg false q.den=((q.den:Nat):Int) from rfl] at T2;have hql:(digs q.den).length≤10000000000:=HO.len _ (Nat.lt_of_le_of_lt (by rw [ed];exact Nat.div_le_self _ _) hy);have T1:=Hj T1;have T2:=Hj T2;have HQL:=Hj hql;have hq1:q.den≠0:=q.den_nz;have HO:=Hj HO;have hgs:decide (((gg:Nat):Int)<0)=false:=by simp
 have hqs:decide (((q.den:Nat):Int)<0)=false:=by simp
 clear en ed hgp hg1 hg2 hgl hD hpos hx hy hql HO;go_enter Tryz.func111,Tryz.ntmps111
 go_wp2_with fail
 obtain ⟨hB0,hB1,hB2,hBW,hsz⟩:=pre3 w 40 #[.bool neg,.slice A n c] 40 #[.bool false,.slice A' n' c'] 42 #[.bool false,.slice none 0 0,.bool false,.slice none 0 0];generalize ((w.alloc (.cells #[.bool neg,.slice A n c] 40)).alloc (.cells #[.bool false,.slice A' n' c'] 40)).alloc (.cells #[.bool false,.slice none 0 0,.bool false,.slice none 0 0] 42)=W at *;have HSZ:=Hj hsz;clear hsz;refine (TS.out W (h'.below hBW)).mono ?_;rintro e w1 ⟨rfl,hb1⟩;have hB0:=hB0.below hb1 hB0.lt;have hB1:=hB1.below hb1 hB1.lt;have hB2:=hB2.below hb1 hB2.lt;have hb1:Below w.heap.size w w1:=hBW.trans (hb1.mono hBW.size);clear hBW HSZ TS;obtain ⟨c0,c1,-,-⟩:=hB0.two;obtain ⟨c2,c3,-,-⟩:=hB1.two;have hz1:w.heap.size+1+1+1≤w1.heap.size:=hB2.lt
 go_wp2_with fail
 refine (TG.out w1 (h.below hb1) (h'.below hb1)).mono ?_;rintro e w2 ⟨A5,k5,c5,rfl,hk5,hW5,hF5,hb2⟩;have hB0:=hB0.below hb2 hB0.lt;have hB1:=hB1.below hb2 hB1.lt;have hB2:=hB2.below hb2 hB2.lt;have hb2:Below w.heap.size w w2:=hb1.trans (hb2.mono hb1.size);rw [Int.natAbs_natCast] at hW5;rw [hgs];have hz2:w.heap.size+1+1+1≤w2.heap.size:=hB2.lt;have hB5:=Blk.new w2 40 #[.bool false,.slice A5 k5 c5];have hF5:=(hF5.mono hz1).keep hW5 ((Below.refl _ w2).alloc (Nat.le_refl _) (.cells #[.bool false,.slice A5 k5 c5] 40));have hW5:=hW5.alloc (.cells #[.bool false,.slice A5 k5 c5] 40);have hB0:=hB0.alloc (.cells #[.bool false,.slice A5 k5 c5] 40);have hB1:=hB1.alloc (.cells #[.bool false,.slice A5 k5 c5] 40);have hB2:=hB2.alloc (.cells #[.bool false,.slice A5 k5 c5] 40);have hb3:=hb2.alloc hb2.size (.cells #[.bool false,.slice A5 k5 c5] 40);have hz3:(w2.alloc (.cells #[.bool false,.slice A5 k5 c5] 40)).heap.size=w2.heap.size+1:=World.size_alloc _ _;have HZ3:=Hj hz3;clear hz3;clear c0 c1 c2 c3 hgs TG hb1 hb2;obtain ⟨c0,c1,c2,c3⟩:=hB0.two;obtain ⟨e0,e1,-,-⟩:=hB5.two
 go_wp2_with fail
 clear c0 c1 c2 c3 e0 e1;generalize w2.alloc (.cells #[.bool false,.slice A5 k5 c5] 40)=W3 at *;have hz3:w.heap.size+1+1+1<W3.heap.size:=by have:=HZ3.out;omega
 refine (T1.out A5 k5 c5 W3 (h.below hb3) hW5 hk5).mono ?_;rintro e w6 ⟨A6,k6,c6,rfl,hk6,hW6,hF6,hb6⟩;have hB0:=hB0.below hb6 hB0.lt;have hB1:=hB1.below hb6 hB1.lt;have hB2:=hB2.below hb6 hB2.lt;have hB5:=hB5.below hb6 hB5.lt;have hF5:=hF5.keep hW5 hb6;have hW5:=hW5.below hb6;have hz6:W3.heap.size≤w6.heap.size:=hb6.size;have hb6:Below w.heap.size w w6:=hb3.trans (hb6.mono hb3.size);obtain ⟨c0,c1,c2,c3⟩:=hB0.two;have hB0:=hB0.set2 (.bool (decide (q.num<0))) (.slice A6 k6 c6);have hB1:=(hB1.far (p:=⟨w.heap.size,0,none⟩) (by simp) (.bool (decide (q.num<0)))).far (p:=⟨w.heap.size,1,none⟩) (by simp) (.slice A6 k6 c6);have hB2:=(hB2.far (p:=⟨w.heap.size,0,none⟩) (by simp;omega) (.bool (decide (q.num<0)))).far (p:=⟨w.heap.size,1,none⟩) (by simp;omega) (.slice A6 k6 c6);have hB5:=(hB5.far (p:=⟨w.heap.size,0,none⟩) (by simp;omega) (.bool (decide (q.num<0)))).far (p:=⟨w.heap.size,1,none⟩) (by simp;omega) (.slice A6 k6 c6);have hF6':Fresh (w.heap.size+1) w6 A6 k6:=hF6.mono (by omega);have hF6:=(hF6.set ⟨w.heap.size,0,none⟩ (.bool (decide (q.num<0)))).set ⟨w.heap.size,1,none⟩ (.slice A6 k6 c6);have hW6:=(store2_far (.bool (decide (q.num<0))) (.slice A6 k6 c6) hW6 hF6').1;have hb7:=below_set2 hb6 (Nat.le_refl w.heap.size) (.bool (decide (q.num<0))) (.slice A6 k6 c6);obtain ⟨e0,e1,-,-⟩:=hB1.two;obtain ⟨e2,e3,-,-⟩:=hB5.two;have hW5:=(store2_far (g:=w.heap.size) (.bool (decide (q.num<0))) (.slice A6 k6 c6) hW5 (hF5.mono (by omega))).1;have hF5:=(hF5.set ⟨w.heap.size,0,none⟩ (.bool (decide (q.num<0)))).set ⟨w.heap.size,1,none⟩ (.slice A6 k6 c6);clear hF6' hb6 hb3
 go_wp2_with fail
 clear c0 c1 c2 c3 e0 e1 e2 e3;have hz7:w.heap.size+1+1+1<((w6.setCell ⟨w.heap.size,0,none⟩ (.bool (decide (q.num<0)))).setCell ⟨w.heap.size,1,none⟩ (.slice A6 k6 c6)).heap.size:=by simp [World.setCell];omega
 generalize (w6.setCell ⟨w.heap.size,0,none⟩ (.bool (decide (q.num<0)))).setCell ⟨w.heap.size,1,none⟩ (.slice A6 k6 c6)=W6 at *;refine (T2.out A5 k5 c5 W6 (h'.below hb7) hW5 hk5).mono ?_;rintro e w8 ⟨A7,k7,c7,rfl,hk7,hW7,hF7,hb8⟩;rw [hqs];rw [Int.natAbs_natCast] at hW7;have hB0:=hB0.below hb8 hB0.lt;have hB1:=hB1.below hb8 hB1.lt;have hB2:=hB2.below hb8 hB2.lt;have hF6:=hF6.keep hW6 hb8;have hW6:=hW6.below hb8;have hb8:Below w.heap.size w w8:=hb7.trans (hb8.mono hb7.size);obtain ⟨c0,c1,c2,c3⟩:=hB1.two;have hB1:=hB1.set2 (.bool false) (.slice A7 k7 c7);have hB0:=(hB0.far (p:=⟨w.heap.size+1,0,none⟩) (by simp) (.bool false)).far (p:=⟨w.heap.size+1,1,none⟩) (by simp) (.slice A7 k7 c7);have hB2:=(hB2.far (p:=⟨w.heap.size+1,0,none⟩) (by simp) (.bool false)).far (p:=⟨w.heap.size+1,1,none⟩) (by simp) (.slice A7 k7 c7);have hW6:=(store2_far (g:=w.heap.size+1) (.bool false) (.slice A7 k7 c7) hW6 (hF6.mono (by omega))).1;have hF6:=(hF6.set ⟨w.heap.size+1,0,none⟩ (.bool false)).set ⟨w.heap.size+1,1,none⟩ (.slice A7 k7 c7);have hW7:=(store2_far (g:=w.heap.size+1) (.bool false) (.slice A7 k7 c7) hW7 (hF7.mono (by omega))).1;have hF7:=(hF7.set ⟨w.heap.size+1,0,none⟩ (.bool false)).set ⟨w.heap.size+1,1,none⟩ (.slice A7 k7 c7);have hb9:=below_set2 hb8 (by omega:w.heap.size≤w.heap.size+1) (.bool false) (.slice A7 k7 c7);obtain ⟨e0,e1,-,-⟩:=hB1.two;clear hW5 hF5 hB5 hb7 hb8 T1 T2 hqs
 go_wp2_with fail
 clear c0 c1 c2 c3 e0 e1;generalize (w8.setCell ⟨w.heap.size+1,0,none⟩ (.bool false)).setCell ⟨w.heap.size+1,1,none⟩ (.slice A7 k7 c7)=W8 at *;have hl7:k7≤10000000000:=by rw [← hW7.1];exact HQL.out
 refine (int64_any false A7 k7 c7 (digs q.den) W8 hW7 hk7 (by omega)).mono ?_;rw [val_digs,show sg false q.den=((q.den:Nat):Int) from rfl];rintro e w9 ⟨x,b,rfl,hbt,hbf,hb10⟩;have hB0:=hB0.below hb10 hB0.lt;have hB1:=hB1.below hb10 hB1.lt;have hB2:=hB2.below hb10 hB2.lt;have hF6:=hF6.keep hW6 hb10;have hW6:=hW6.below hb10;have hF7:=hF7.keep hW7 hb10;have hW7:=hW7.below hb10;have hb10:Below w.heap.size w w9:=hb9.trans (hb10.mono hb9.size);have hF6:=hF6.mono (show w.heap.size+1+1+1≤W3.heap.size by omega);have hF7:=hF7.mono (show w.heap.size+1+1+1≤W6.heap.size by omega);clear hb9 hz6 hz7 hz1 hz2 hz3 HZ3;obtain ⟨c0,c1,-,-⟩:=hB0.two;obtain ⟨c2,c3,f2,f3⟩:=hB1.two;obtain ⟨g0,g1,g2,g3,r0,r1,r2,r3⟩:=hB2.four;by_cases hd1:q.den=1
 ·have hb:b=true:=by
   cases b
   ·exact absurd (show Fits ((q.den:Nat):Int) by rw [hd1];unfold Fits;omega) (hbf rfl).2
   ·rfl
  subst hb;have hx1:x=1:=by rw [(hbt rfl).1,hd1];rfl
  subst hx1;have hWd:Wat w9 none 0 (denW q.den):=by rw [hd1];exact Wat.nil
  have hw0:=(store2_far (g:=w.heap.size+1) (.bool false) (.slice none 0 0) hW6 (hF6.mono (by omega))).1;have hf0:=(hF6.set ⟨w.heap.size+1,0,none⟩ (.bool false)).set ⟨w.heap.size+1,1,none⟩ (.slice none 0 0);have hB0':=(hB0.far (p:=⟨w.heap.size+1,0,none⟩) (by simp) (.bool false)).far (p:=⟨w.heap.size+1,1,none⟩) (by simp) (.slice none 0 0);have hB1':=hB1.set2 (.bool false) (.slice none 0 0);have hB2':=(hB2.far (p:=⟨w.heap.size+1,0,none⟩) (by simp) (.bool false)).far (p:=⟨w.heap.size+1,1,none⟩) (by simp) (.slice none 0 0);have hb11:=below_set2 hb10 (by omega:w.heap.size≤w.heap.size+1) (.bool false) (.slice none 0 0);have hr:=RS4.start hB2';have hfin:=retQ_close (g:=w.heap.size+1+1) (c':=0) hb11 (by omega) (Nat.lt_succ_self _) hr hk6 (Nat.le_refl 0) hw0 (show Wat _ none 0 (denW q.den) by rw [hd1];exact Wat.nil) hf0 Fresh.nil;have hdn:=hr.done (.bool (decide (q.num<0))) (.slice A6 k6 c6) (.bool false) (.slice none 0 0);obtain ⟨d0,d1,d2,d3,-,-,-,-⟩:=hdn.four;have HF:=Hj hfin;have D0:=Hj d0;have D1:=Hj d1;have D2:=Hj d2;have D3:=Hj d3;have HD1:=Hj hd1;clear hfin hdn d0 d1 d2 d3 hr hb11 hB0 hB1 hB2 hB0' hB1' hB2' hw0 hf0 hWd hW6 hW7 hF6 hF7 hbt hbf hd1;go_wp2;refine bodyPost_ret (v:=.agg #[.bool (decide (q.num<0)),.slice A6 k6 c6,.bool false,.slice none 0 0]) ?_ rfl HF.out;have d0:=D0.out;have d1:=D1.out;have d2:=D2.out;have d3:=D3.out;simp [results,Tryz.results111,go_sem,d0,d1,d2,d3]
 ·have hr:=RS4.start hB2;have hWd:Wat w9 A7 k7 (denW q.den):=by unfold denW;rw [if_neg hd1];exact hW7
  have hfin:=retQ_close (g:=w.heap.size+1+1) hb10 (by omega) (Nat.lt_succ_self _) hr hk6 hk7 hW6 hWd hF6 hF7;have hdn:=hr.done (.bool (decide (q.num<0))) (.slice A6 k6 c6) (.bool false) (.slice A7 k7 c7);obtain ⟨d0,d1,d2,d3,-,-,-,-⟩:=hdn.four;have hx1:b=true→(x == 1)=false:=fun hb=>by rw [(hbt hb).1];simp;omega
  have HF:=Hj hfin;have D0:=Hj d0;have D1:=Hj d1;have D2:=Hj d2;have D3:=Hj d3;have HD1:=Hj hd1;clear hfin hdn d0 d1 d2 d3 hr hB0 hB1 hB2 hWd hW6 hW7 hF6 hF7 hbt hbf hd1;cases b
  ·clear hx1;go_wp2;refine bodyPost_ret (v:=.agg #[.bool (decide (q.num<0)),.slice A6 k6 c6,.bool false,.slice A7 k7 c7]) ?_ rfl HF.out;have d0:=D0.out;have d1:=D1.out;have d2:=D2.out;have d3:=D3.out;simp [results,Tryz.results111,go_sem,d0,d1,d2,d3]
  ·have hx1:=hx1 rfl;go_wp2;refine bodyPost_ret (v:=.agg #[.bool (decide (q.num<0)),.slice A6 k6 c6,.bool false,.slice A7 k7 c7]) ?_ rfl HF.out;have d0:=D0.out;have d1:=D1.out;have d2:=D2.out;have d3:=D3.out;simp [results,Tryz.results111,go_sem,d0,d1,d2,d3]
end Go.Proofs.YtjajigkacccdgaaGreat
