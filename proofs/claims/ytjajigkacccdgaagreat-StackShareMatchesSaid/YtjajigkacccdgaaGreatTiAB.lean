/-
Lemmas of the walk; no further conditions.
-/
import Derived.Test.YtjajigkacccdgaaGreatTiAA
import Derived.Deep.RegionHeld3
import Derived.OwnWalk
import Derived.Laws.MakeOwn
set_option linter.unusedVariables false
set_option linter.unusedSimpArgs false
set_option maxRecDepth 100000
set_option maxHeartbeats 16000000
namespace Go.Proofs.YtjajigkacccdgaaGreat
open Go.RowKit
open Wd
theorem fromInt64_any (z:Int) (w:World) (h1 : -9223372036854775808≤z) (h2:z≤9223372036854775807) :
  Calls Tryz.prog 88 #[.int .i64 z] w (RetZ w z):=by
 by_cases hz:z<0
 ·have hw:IntKind.u64.wrap (-(IntKind.u64.wrap z))=(z.natAbs:Int):=by
   rw [IntKind.wrap_u64,IntKind.wrap_u64];omega
  have HW:=Hj hw;clear hw;have hsg:sg true z.natAbs=z:=by unfold sg;simp;omega
  have HS:=Hj hsg;clear hsg;go_enter Tryz.func88,Tryz.ntmps88
  go_wp2_with fail
  rw [HW.out];have hg:=Blk.new w 40 #[.bool false,.slice none 0 0];refine (small_any true z.natAbs _ (by omega)).mono ?_;rw [HS.out];rintro e w1 ⟨A,k,c,rfl,hk,hW,hF,hB⟩;rw [World.size_alloc] at hF;have hg1:=hg.below hB (by simp);have hg2:=hg1.set2 (.bool (decide (z<0))) (.slice A k c);have hb2:=below_set2 (below_of_alloc hB) (Nat.le_refl w.heap.size) (.bool (decide (z<0))) (.slice A k c);obtain ⟨hW2,hF2⟩:=store2_far (.bool (decide (z<0))) (.slice A k c) hW hF;obtain ⟨c0,c1,f0,f1⟩:=hg1.two;clear hg hB HW HS hW hF;have HZ:=Hj hz;clear hz;go_wp2;obtain ⟨d0,d1,-,-⟩:=hg2.two;refine bodyPost_ret (v:=.agg #[.bool (decide (z<0)),.slice A k c]) ?_ rfl ⟨A,k,c,rfl,hk,hW2,hF2,hb2⟩;simp [results,Tryz.results88,go_sem,d0,d1]
 ·obtain ⟨n,rfl⟩:∃ n:Nat,z=n:=⟨z.natAbs,by omega⟩;have hsg:sg false n=n:=by unfold sg;simp
  have HS:=Hj hsg;clear hsg;go_enter Tryz.func88,Tryz.ntmps88
  go_wp2_with fail
  have hg:=Blk.new w 40 #[.bool false,.slice none 0 0];refine (small_any false n _ (by omega)).mono ?_;rw [HS.out];rintro e w1 ⟨A,k,c,rfl,hk,hW,hF,hB⟩;generalize (n:Int)=z at *;rw [World.size_alloc] at hF;have hg1:=hg.below hB (by simp);have hg2:=hg1.set2 (.bool (decide (z<0))) (.slice A k c);have hb2:=below_set2 (below_of_alloc hB) (Nat.le_refl w.heap.size) (.bool (decide (z<0))) (.slice A k c);obtain ⟨hW2,hF2⟩:=store2_far (.bool (decide (z<0))) (.slice A k c) hW hF;obtain ⟨c0,c1,f0,f1⟩:=hg1.two;clear hg hB HS hW hF;have HZ:=Hj hz;clear hz;go_wp2;obtain ⟨d0,d1,-,-⟩:=hg2.two;refine bodyPost_ret (v:=.agg #[.bool (decide (z<0)),.slice A k c]) ?_ rfl ⟨A,k,c,rfl,hk,hW2,hF2,hb2⟩;simp [results,Tryz.results88,go_sem,d0,d1]
theorem sign_any (neg:Bool) (A:Option Addr) (n c:Nat) (l:List Nat) (w:World) (h:Wat w A n l) (hnc:n≤c) (hm:n≤9223372036854775807) :
  Calls Tryz.prog 94 #[.agg #[.bool neg,.slice A n c]] w fun e w'=>e=.returned (.int .i64 (cmpI (sg neg (val l)) 0))∧Below w.heap.size w w':=by
 by_cases h0:val l=0
 ·have e:cmpI (sg neg (val l)) 0=0:=by rw [h0,sg_zero];rfl
  have hd:digs (val l)=[]:=by rw [h0,digs_zero]
  have HD:=Hj hd;have E:=Hj e;clear e hd h0;rw [E.out];go_enter Tryz.func94,Tryz.ntmps94
  go_wp2_with fail
  refine (trim_any A n c l _ (h.alloc _) hnc hm).mono ?_;rw [HD.out];rintro e w' ⟨rfl,rfl⟩;go_wp2;go_ret;exact ⟨rfl,(Below.refl _ _).alloc (Nat.le_refl _) _⟩
 ·have hlen:(digs (val l)).length≠0:=fun hh=>h0 (digs_nil (List.eq_nil_of_length_eq_zero hh));have e:cmpI (sg neg (val l)) 0=if neg then -1 else 1:=by
   unfold sg;cases neg
   ·exact cmpI_gt (by simp;omega)
   ·exact cmpI_lt (by simp;omega)
  have E:=Hj e;clear e;generalize hk:(digs (val l)).length=k at *;have HK:=Hj hk;clear hk;have hk0:((k:Int) == 0)=false:=by simpa using hlen
  cases neg
  all_goals
   rw [E.out];go_enter Tryz.func94,Tryz.ntmps94
   go_wp2_with fail
   refine (trim_any A n c l _ (h.alloc _) hnc hm).mono ?_;rw [HK.out];rintro e w' ⟨rfl,rfl⟩;go_wp2;go_ret;exact ⟨rfl,(Below.refl _ _).alloc (Nat.le_refl _) _⟩
theorem cmpI_flip (a b:Nat):cmpI (-(a:Int)) (-(b:Int))=cmpI b a:=by
 unfold cmpI;split<;>split<;>(try split)<;>(try split)<;>omega
theorem sg_of_neg {neg:Bool} {n:Nat} (h:sg neg n<0):sg neg n = -(n:Int):=by
 unfold sg at *;cases neg<;>simp at *<;>omega
theorem sg_of_pos {neg:Bool} {n:Nat} (h:0≤sg neg n):sg neg n=(n:Int):=by
 unfold sg at *;cases neg<;>simp at *<;>omega
theorem cmp_cases (a b:Int):(cmpI a 0<cmpI b 0∧cmpI a b = -1)∨(cmpI b 0<cmpI a 0∧cmpI a b=1)∨(cmpI a 0=cmpI b 0∧cmpI a 0<0∧a<0∧b<0)∨(cmpI a 0=cmpI b 0∧0≤cmpI a 0∧0≤a∧0≤b):=by
 unfold cmpI;by_cases h1:a<0<;>by_cases h2:b<0<;>by_cases h3:0<a<;>by_cases h4:0<b<;>by_cases h5:a<b<;>by_cases h6:b<a<;>simp [h1,h2,h3,h4,h5,h6]<;>omega
theorem quiet_left {P:Program} {f:FuncId} {args:Array Value} {w:World} {n:Nat} {v:Value}
  (h:Calls P f args (w.drewN n) fun e w'=>e=.returned v∧w.drewN n=w'):Calls P f args (w.drewN n) fun e w''=>e=.returned v∧∃ m,w''=w.drewN m :=
 h.mono fun _ _ ⟨he,hm⟩=>⟨he,n,hm.symm⟩
theorem cmp_any (neg neg':Bool) (A A':Option Addr) (n n' c c':Nat) (l l':List Nat) (w:World) (h:Wat w A n l) (h':Wat w A' n' l') (hnc:n≤c) (hnc':n'≤c') (hm:n≤9223372036854775807) (hm':n'≤9223372036854775807) :
  Calls Tryz.prog 96 #[.agg #[.bool neg,.slice A n c],.agg #[.bool neg',.slice A' n' c']] w fun e w'=>e=.returned (.int .i64 (cmpI (sg neg (val l)) (sg neg' (val l'))))∧Below w.heap.size w w':=by
 generalize hx:cmpI (sg neg (val l)) 0=x;generalize hy:cmpI (sg neg' (val l')) 0=y;have HX:=Hj hx;have HY:=Hj hy;clear hx hy;go_enter Tryz.func96,Tryz.ntmps96
 go_wp2_with fail
 have hA:=(Blk.new w 40 #[.bool neg,.slice A n c]).alloc (.cells #[.bool neg',.slice A' n' c'] 40);have hA':=Blk.new (w.alloc (.cells #[.bool neg,.slice A n c] 40)) 40 #[.bool neg',.slice A' n' c'];rw [World.size_alloc] at hA';have hBW:Below w.heap.size w ((w.alloc (.cells #[.bool neg,.slice A n c] 40)).alloc (.cells #[.bool neg',.slice A' n' c'] 40)):=((Below.refl _ _).alloc (Nat.le_refl _) _).alloc (by simp) _;generalize (w.alloc (.cells #[.bool neg,.slice A n c] 40)).alloc (.cells #[.bool neg',.slice A' n' c'] 40)=W at *;have hS:∀ w',Kp W w'→(w'.cell? ⟨w.heap.size,0,none⟩=some (.bool neg)∧w'.cell? ⟨w.heap.size,1,none⟩=some (.slice A n c)∧w'.cell? ⟨w.heap.size+1,0,none⟩=some (.bool neg')∧w'.cell? ⟨w.heap.size+1,1,none⟩=some (.slice A' n' c'))∧Kp W w':=fun w' hk =>
  ⟨⟨(hk.blk hA).cell 0,(hk.blk hA).cell 1,(hk.blk hA').cell 0,(hk.blk hA').cell 1⟩,hk⟩
 have HS:=Hj hS;obtain ⟨⟨s0,s1,s2,s3⟩,s4⟩:=hS W (Kp.refl W);have hw1:=h.below hBW;have hw2:=h'.below hBW;clear hS hA hA'
 go_region_held3 (fun w'=>(w'.cell? ⟨w.heap.size,0,none⟩=some (.bool neg)∧w'.cell? ⟨w.heap.size,1,none⟩=some (.slice A n c)∧w'.cell? ⟨w.heap.size+1,0,none⟩=some (.bool neg')∧w'.cell? ⟨w.heap.size+1,1,none⟩=some (.slice A' n' c'))∧Kp W w')
  (first|exact HS.out _ (by assumption)|exact HS.out _ (Kp.drew (by assumption))|exact HS.out _ (Kp.drew (And.right (by assumption))))
  (first
   | (go_at_call_of 94 (Value.agg #[.bool neg,.slice A n c]);have hk:=And.right ‹(_∧_∧_∧_)∧Kp W _›;refine (sign_any neg A n c l _ (hw1.below hk) hnc hm).mono ?_;rw [HX.out];rintro e w1 ⟨rfl,hb⟩;have hk1:=hk.trans hb;clear hk hb)
   | (go_at_call_of 94 (Value.agg #[.bool neg',.slice A' n' c']);have hk:=And.right ‹(_∧_∧_∧_)∧Kp W _›;refine (sign_any neg' A' n' c' l' _ (hw2.below hk) hnc' hm').mono ?_;rw [HY.out];rintro e w1 ⟨rfl,hb⟩;have hk2:=hk.trans hb;clear hk hb))
 rename_i hHeld
 obtain ⟨⟨t0,t1,t2,t3⟩,hkp⟩:=hHeld;have hB1:Below w.heap.size w w1:=hBW.trans (Below.mono hkp hBW.size);have hv1:=h.below hB1;have hv2:=h'.below hB1;clear HS s0 s1 s2 s3 s4 hw1 hw2 hk1 hk2 hBW hkp;have hx:x=cmpI (sg neg (val l)) 0:=HX.out.symm;have hy:y=cmpI (sg neg' (val l')) 0:=HY.out.symm;rcases cmp_cases (sg neg (val l)) (sg neg' (val l')) with ⟨h1,h2⟩|⟨h1,h2⟩|⟨h1,h2,h3,h4⟩|⟨h1,h2,h3⟩
 ·rw [← hx,← hy] at h1;have E:=Hj h2;clear hx hy h2;go_wp2;go_ret;rw [E.out];exact ⟨rfl,hB1⟩
 ·rw [← hx,← hy] at h1;have E:=Hj h2;clear hx hy h2;go_wp2;go_ret;rw [E.out];exact ⟨rfl,hB1⟩
 ·rw [← hx,← hy] at h1;rw [← hx] at h2;subst h1;have e:cmpI (val l') (val l)=cmpI (sg neg (val l)) (sg neg' (val l')):=by
   have a1:=sg_of_neg h3;have a2:=sg_of_neg h4;rw [a1,a2];exact (cmpI_flip _ _).symm
  have E:=Hj e;clear e hx hy h3 h4 HX HY;have T1:=Hj (fun W (hb:Below w1.heap.size w1 W)=>trim_any A n c l W (hv1.below hb) hnc hm);have T2:=Hj (fun W (hb:Below w1.heap.size w1 W)=>trim_any A' n' c' l' W (hv2.below hb) hnc' hm');have T3:=Hj (fun W (hb:Below w1.heap.size w1 W)=>compareWords_any A' A _ _ c' c (val l') (val l) W (hv2.below hb).trim (hv1.below hb).trim (by have:=hv2.trim_le;omega) (by have:=hv1.trim_le;omega))
  go_wp2_with fail
  go_quiet ((first|(go_at_call_of 141 (Value.slice A n c);exact quiet_left (T1.out _ (belowN _ _)))|(go_at_call_of 141 (Value.slice A' n' c');exact quiet_left (T2.out _ (belowN _ _)))|(go_at_call 142;exact Calls.quiet_of (T3.out _ (belowN _ _)))))
  go_wp2;go_ret;rw [← E.out];exact ⟨rfl,below_drewN hB1 _⟩
 ·rw [← hx,← hy] at h1;rw [← hx] at h2;subst h1;have e:cmpI (val l) (val l')=cmpI (sg neg (val l)) (sg neg' (val l')):=by
   have a1:=sg_of_pos h3.1;have a2:=sg_of_pos h3.2;rw [a1,a2]
  have E:=Hj e;clear e hx hy h3 HX HY;have T1:=Hj (fun W (hb:Below w1.heap.size w1 W)=>trim_any A n c l W (hv1.below hb) hnc hm);have T2:=Hj (fun W (hb:Below w1.heap.size w1 W)=>trim_any A' n' c' l' W (hv2.below hb) hnc' hm');have T3:=Hj (fun W (hb:Below w1.heap.size w1 W)=>compareWords_any A A' _ _ c c' (val l) (val l') W (hv1.below hb).trim (hv2.below hb).trim (by have:=hv1.trim_le;omega) (by have:=hv2.trim_le;omega))
  go_wp2_with fail
  go_quiet ((first|(go_at_call_of 141 (Value.slice A n c);exact quiet_left (T1.out _ (belowN _ _)))|(go_at_call_of 141 (Value.slice A' n' c');exact quiet_left (T2.out _ (belowN _ _)))|(go_at_call 142;exact Calls.quiet_of (T3.out _ (belowN _ _)))))
  go_wp2;go_ret;rw [← E.out];exact ⟨rfl,below_drewN hB1 _⟩
def u32s (l:List Nat):List Value:=l.map fun d:Nat=>.int .u32 (d:Int)
theorem u32s_get (l:List Nat) (j:Nat):(u32s l)[j]?=l[j]?.map fun d:Nat=>Value.int .u32 (d:Int):=by simp [u32s]
theorem u32s_one (l:List Nat):∀ u∈u32s l,u.oneCell'=true:=by
 intro u hu;simp only [u32s,List.mem_map] at hu;obtain ⟨d,_,rfl⟩:=hu
 rfl
theorem u32s_append (a b:List Nat):u32s (a ++ b)=u32s a ++ u32s b:=by simp [u32s]
theorem addr_add (b o j:Nat):(⟨b,o,none⟩:Addr).add j=⟨b,o+j,none⟩:=by
 unfold Addr.add;split
 ·rename_i h;subst h;rfl
 ·rfl
theorem Wat.news {w:World} {ad:Addr} {n:Nat} {l:List Nat} (h:Wat w (some ad) n l):∀ j u,(u32s l)[j]?=some u→w.cell? (ad.add j)=some u:=by
 intro j u hu;rw [u32s_get] at hu;have hj:j<l.length:=by
  rcases Nat.lt_or_ge j l.length with hj|hj
  ·exact hj
  ·rw [List.getElem?_eq_none hj] at hu;cases hu
 have hn:=h.1;obtain ⟨b,o,he,_,hc⟩:=h.2.2 (by omega);cases he;rw [addr_add,hc j (by omega),← hu,List.getElem?_eq_getElem hj];simp
theorem info_u32:(Tryz.prog.info? 59).map (fun i=>(i.zero,i.size,i.bytes))=some (some (.int .u32 0),1,4):=by kernel_rfl
theorem wat_of_own {w:World} {base n:Nat} {v:Value} {l:List Nat} (hl:Ws l) (h:w.ownsRow base 59 1 v n (u32s l)) :
  ∃ A c,v=.slice A n c∧n≤c∧c≤maxLen∧Wat w A n l∧Fresh base w A n:=by
 have hlen:l.length=n:=by have:=h.1;simpa [u32s] using this
 rcases h.2 with ⟨rfl,rfl⟩|⟨g,cap,cur,rfl,hbg,hh,hnc,hcm,hcs,hxs⟩
 ·obtain rfl:l=[]:=List.eq_nil_of_length_eq_zero hlen;exact ⟨none,0,rfl,Nat.le_refl _,Nat.zero_le _,Wat.nil,Fresh.nil⟩
 ·have hlt:g<w.heap.size:=by
   rcases Nat.lt_or_ge g w.heap.size with hlt|hge
   ·exact hlt
   ·rw [Array.getElem?_eq_none hge] at hh;cases hh
  refine ⟨_,_,rfl,hnc,hcm,⟨hlen,hl,fun _=>⟨g,0,rfl,hlt,fun j hj=>?_⟩⟩,fun _=>⟨g,0,rfl,hbg,fun j _=>?_⟩⟩
  ·have hc:=h.cellAt j (by omega);rw [Nat.zero_add,hc,u32s_get,List.getElem?_eq_getElem (by omega)];simp
  ·rw [Nat.zero_add];exact h.frozenAt j
def RetW (w:World) (n:Nat) (l:List Nat) (e:Ending) (w':World):Prop :=
 ∃ A c,e=.returned (.slice A n c)∧n≤c∧c≤maxLen∧Wat w' A n l∧Fresh w.heap.size w' A n∧Below w.heap.size w w'
theorem clone_any (A:Option Addr) (n c:Nat) (l:List Nat) (w:World) (h:Wat w A n l) (hm:n≤1000000000000) :
  Calls Tryz.prog 154 #[.slice A n c] w (RetW w n l):=by
 rcases A with _|ad
 ·have h0:n=0:=by
   rcases Nat.eq_zero_or_pos n with h0|h0
   ·exact h0
   ·obtain ⟨b,o,he,_⟩:=h.2.2 (by omega);cases he
  subst h0;obtain rfl:l=[]:=List.eq_nil_of_length_eq_zero h.1;have hq:=fun w=>Lib.run_eql_slice_nil (P:=Tryz.prog) w 38 59 none 0 c 0 0 Tryz.underlying38;go_enter Tryz.func154,Tryz.ntmps154;go_wp2;go_ret;exact ⟨none,0,rfl,Nat.le_refl _,Nat.zero_le _,Wat.nil,Fresh.nil,Below.refl _ _⟩
 ·have hq:=fun w=>Lib.run_eql_slice_nil (P:=Tryz.prog) w 38 59 (some ad) n c 0 0 Tryz.underlying38;obtain ⟨i0,hi,hz0,hz1,hz2⟩:=info_parts info_u32;have hlen:(u32s l).length=n*1:=by simp [u32s,h.1]
  have HL:=Hj hlen;clear hlen;go_enter Tryz.func154,Tryz.ntmps154
  go_wp2_with (at_builtin;refine wpList_append_own _ rfl _ _ 38 rfl w.heap.size 59 i0 (.int .u32 0) 1 4 Tryz.underlying38 hi hz0 hz1 hz2 rfl (by decide) (.slice (some ⟨w.heap.size,0,none⟩) 0 0) 0 [] rfl ?c1 ad n c (u32s l) rfl HL.out ?c2 (u32s_one l) ?c3 ?c4 ?c5 ?_)
  case c1=>exact ⟨by simp,.inr ⟨w.heap.size,0,#[],rfl,Nat.le_refl _,heap_alloc_new _ _,Nat.le_refl _,Nat.zero_le _,rfl,rfl⟩⟩
  case c2=>exact (h.alloc _).news
  case c3=>simp only [maxLen];omega
  case c4=>omega
  case c5=>simp
  intro v1 w1 hown hgr _;have hown:w1.ownsRow w.heap.size 59 1 v1 n (u32s l):=by simpa using hown
  obtain ⟨A1,c1,rfl,hk,hcm,hW,hF⟩:=wat_of_own h.2.1 hown;have hB:Below w.heap.size w w1:=((Below.refl _ w).alloc (Nat.le_refl _) _).grown hgr (by simp) (fun k hk=>by simp [Value.ownBlock] at hk;omega);clear hi hz0 hz1 hz2 hown hgr;go_wp2;go_ret;exact ⟨A1,c1,rfl,hk,hcm,hW,hF,hB⟩
theorem RetZ.of_in {w0 w w':World} {A:Option Addr} {n c:Nat} {l:List Nat} {neg:Bool} {e:Ending} (hb:Below w0.heap.size w0 w) (hW:Wat w A n l) (hF:Fresh w0.heap.size w A n) (hnc:n≤c)
  (h:RetIn w A c (sg neg (val l)) e w'):RetZ w0 (sg neg (val l)) e w':=by
 obtain ⟨A',c',he,h1,h2,hB⟩:=h;have hna:=sg_natAbs neg (val l);by_cases hz:sg neg (val l)=0
 ·obtain ⟨rfl,rfl⟩:=h2 hz;rw [hna] at he;have h0:val l=0:=by have:=congrArg Int.natAbs hz;rw [hna] at this;exact this
  rw [h0,digs_zero] at he;refine ⟨none,0,0,?_,Nat.le_refl _,?_,Fresh.nil,hb.trans (hB.mono hb.size)⟩
  ·rw [h0];exact he
  ·rw [hna,h0,digs_zero];exact Wat.nil
 ·obtain ⟨rfl,rfl⟩:=h1 hz;rw [hna] at he;refine ⟨A',_,c',he,Nat.le_trans hW.trim_le hnc,?_,?_,hb.trans (hB.mono hb.size)⟩
  ·rw [hna];exact hW.trim.below hB
  ·exact (hF.shorter hW.trim_le).keep hW.trim hB
theorem neg_any (neg:Bool) (A:Option Addr) (n c:Nat) (l:List Nat) (w:World) (h:Wat w A n l) (hnc:n≤c) (hm:n≤1000000000000) :
  Calls Tryz.prog 140 #[.agg #[.bool neg,.slice A n c]] w (RetZ w (-(sg neg (val l)))):=by
 have hsn:sg (!neg) (val l) = -(sg neg (val l)):=by unfold sg;cases neg<;>simp
 rw [← hsn];clear hsn;go_enter Tryz.func140,Tryz.ntmps140
 go_wp2_with fail
 obtain ⟨hB0,hB1,hBW,hsz⟩:=pre2 w 40 #[.bool neg,.slice A n c] 40 #[.bool false,.slice none 0 0];generalize (w.alloc (.cells #[.bool neg,.slice A n c] 40)).alloc (.cells #[.bool false,.slice none 0 0] 40)=W at *;have HSZ:=Hj hsz;clear hsz;have s4:=RS.start hB1;have hw:∀ w',RS (w.heap.size+1) 40 W w'→Wat w' A n l:=fun w' hk=>h.below (hBW.trans (hk.1.mono (by omega)));have HW:=Hj hw;clear hw;have hS:∀ w',RS (w.heap.size+1) 40 W w'→(w'.cell? ⟨w.heap.size,0,none⟩=some (.bool neg)∧w'.cell? ⟨w.heap.size,1,none⟩=some (.slice A n c))∧RS (w.heap.size+1) 40 W w':=fun w' hk=>⟨⟨(hk.blk hB0 (by omega)).cell 0,(hk.blk hB0 (by omega)).cell 1⟩,hk⟩;have HS:=Hj hS;clear hS;clear hB0 hB1
 go_region_held3 (fun w'=>(w'.cell? ⟨w.heap.size,0,none⟩=some (.bool neg)∧w'.cell? ⟨w.heap.size,1,none⟩=some (.slice A n c))∧RS (w.heap.size+1) 40 W w')
  (first|exact HS.out _ (by assumption)|exact HS.out _ (RS.drew (by assumption))|exact HS.out _ (RS.drew (And.right (by assumption)))|exact HS.out _ (RS.set (And.right (by assumption)) _ _))
  (first
   | (go_at_call 141;have hk:=And.right ‹_∧RS (w.heap.size+1) 40 W _›;refine (trim_any A n c l _ (HW.out _ hk) hnc (by omega)).mono ?_;rintro e w1 ⟨rfl,rfl⟩)
   | (go_at_call 154;have hk:=And.right ‹_∧RS (w.heap.size+1) 40 W _›;refine (clone_any A _ c _ _ (HW.out _ hk).trim (by have:=h.trim_le;omega)).mono ?_;rintro e w1 ⟨A1,c1,rfl,hk1,hcm1,hW1,hF1,hb1⟩;have hr1:=hk.call hb1)
   | (go_at_call 144;have hk:=And.right ‹_∧RS (w.heap.size+1) 40 W _›;refine (build_any (!neg) A1 _ c1 _ _ hW1 hk1 (by have:=h.trim_le;omega)).mono ?_;intro e w2 hr;have hr:=RetZ.of_in hb1 hW1 hF1 hk1 hr;rw [val_digs] at hr;obtain ⟨A2,k2,c2,rfl,hk2,hW2,hF2,hb2⟩:=hr;have hr2:=RS.call ‹RS _ _ _ W.drew› hb2;obtain ⟨_,_,c0,c1,f0,f1⟩:=hr2.two))
 have hfin:=retZ_close hBW (by omega) (by have:=HSZ.out;show _<W.heap.size;omega) hr2 hk2 hW2 hF2;obtain ⟨d0,d1,-,-⟩:=(hr2.done (.bool (decide (sg (!neg) (val l)<0))) (.slice A2 k2 c2)).two;clear hr;have HF:=Hj hfin;clear hfin;go_wp2;refine bodyPost_ret (v:=.agg #[.bool (decide (sg (!neg) (val l)<0)),.slice A2 k2 c2]) ?_ rfl HF.out;simp [results,Tryz.results140,go_sem,d0,d1]
def Fits (z:Int):Prop:=-9223372036854775808≤z∧z≤9223372036854775807
theorem len_le_two {m:Nat} (h:m<18446744073709551616):(digs m).length≤2:=digs_len_le.2 (by rw [pow2];exact h)
theorem two_lt_len {m:Nat} (h:18446744073709551616≤m):2<(digs m).length:=digs_len_lt.2 (by rw [pow2];exact h)
theorem int64_yes (neg:Bool) (A:Option Addr) (n c:Nat) (l:List Nat) (w:World) (h:Wat w A n l) (hnc:n≤c) (hm:n≤1000000000000) (hz:Fits (sg neg (val l))) :
  Calls Tryz.prog 138 #[.agg #[.bool neg,.slice A n c]] w fun e w'=>e=.returned (.tuple #[.int .i64 (sg neg (val l)),.bool true])∧Below w.heap.size w w':=by
 obtain ⟨hz1,hz2⟩:=hz;have ht:=h.trim;have hle:=h.trim_le;have T1:=Hj (fun o=>trim_any A n c l (w.alloc o) (h.alloc o) hnc (by omega));generalize hv:val l=m at *;have hm2:m<18446744073709551616:=by unfold sg at hz1 hz2;cases neg<;>simp at hz1 hz2<;>omega
 have h2:=len_le_two hm2;have T2:=Hj (fun o=>low_any A _ c _ (w.alloc o) (ht.alloc o) h2);rw [val_digs] at T2;generalize (digs m).length=k at *;have HV:=Hj hv;clear hv ht;cases neg
 ·have hms:m<9223372036854775808:=by unfold sg at hz2;simp at hz2;omega
  have e:sg false m=(m:Int):=rfl;rw [e];have hd:decide ((9223372036854775808:Int)≤(m:Int))=false:=by simp;omega
  have HMS:=Hj hms;clear hz1 hz2 e hm2 hms;go_enter Tryz.func138,Tryz.ntmps138
  go_wp2_with fail
  refine (T1.out _).mono ?_;rintro e w' ⟨rfl,rfl⟩
  go_wp2_with fail
  refine (T2.out _).mono ?_;rintro e w' ⟨rfl,q,rfl⟩;go_wp2;go_ret2;refine ⟨?_,below_drewN ((Below.refl _ _).alloc (Nat.le_refl _) _) _⟩;have e:wrap64 (m:Int)=(m:Int):=by have:=HMS.out;unfold wrap64;omega
  simp [e]
 ·have hms:m≤9223372036854775808:=by unfold sg at hz1;simp at hz1;omega
  have e:sg true m = -(m:Int):=rfl;rw [e];have hd:decide ((9223372036854775808:Int)<(m:Int))=false:=by simp;omega
  have HMS:=Hj hms;clear hz1 hz2 e hm2 hms;go_enter Tryz.func138,Tryz.ntmps138
  go_wp2_with fail
  refine (T1.out _).mono ?_;rintro e w' ⟨rfl,rfl⟩
  go_wp2_with fail
  refine (T2.out _).mono ?_;rintro e w' ⟨rfl,q,rfl⟩;go_wp2;go_ret2;refine ⟨?_,below_drewN ((Below.refl _ _).alloc (Nat.le_refl _) _) _⟩;have e:wrap64 (IntKind.u64.wrap (-(m:Int))) = -(m:Int):=by
   have:=HMS.out;rw [IntKind.wrap_u64];unfold wrap64;omega
  simp [e]
theorem int64_no (neg:Bool) (A:Option Addr) (n c:Nat) (l:List Nat) (w:World) (h:Wat w A n l) (hnc:n≤c) (hm:n≤1000000000000) (hz:¬ Fits (sg neg (val l))) :
  Calls Tryz.prog 138 #[.agg #[.bool neg,.slice A n c]] w fun e w'=>e=.returned (.tuple #[.int .i64 0,.bool false])∧Below w.heap.size w w':=by
 have ht:=h.trim;have hle:=h.trim_le;have T1:=Hj (fun o=>trim_any A n c l (w.alloc o) (h.alloc o) hnc (by omega));generalize hv:val l=m at *;by_cases hbig:18446744073709551616≤m
 ·have h2:=two_lt_len hbig;generalize (digs m).length=k at *;clear hv ht hz hbig;go_enter Tryz.func138,Tryz.ntmps138
  go_wp2_with fail
  refine (T1.out _).mono ?_;rintro e w' ⟨rfl,rfl⟩;go_wp2;go_ret2;exact ⟨rfl,(Below.refl _ _).alloc (Nat.le_refl _) _⟩
 ·have h2:=len_le_two (m:=m) (by omega);have T2:=Hj (fun o=>low_any A _ c _ (w.alloc o) (ht.alloc o) h2);rw [val_digs] at T2;generalize (digs m).length=k at *;cases neg
  ·have hd:decide ((9223372036854775808:Int)≤(m:Int))=true:=by unfold Fits sg at hz;simp at hz ⊢;omega
   clear hv ht hz hbig;go_enter Tryz.func138,Tryz.ntmps138
   go_wp2_with fail
   refine (T1.out _).mono ?_;rintro e w' ⟨rfl,rfl⟩
   go_wp2_with fail
   refine (T2.out _).mono ?_;rintro e w' ⟨rfl,q,rfl⟩;go_wp2;go_ret2;exact ⟨rfl,below_drewN ((Below.refl _ _).alloc (Nat.le_refl _) _) _⟩
  ·have hd:decide ((9223372036854775808:Int)<(m:Int))=true:=by unfold Fits sg at hz;simp at hz ⊢;omega
   clear hv ht hz hbig;go_enter Tryz.func138,Tryz.ntmps138
   go_wp2_with fail
   refine (T1.out _).mono ?_;rintro e w' ⟨rfl,rfl⟩
   go_wp2_with fail
   refine (T2.out _).mono ?_;rintro e w' ⟨rfl,q,rfl⟩;go_wp2;go_ret2;exact ⟨rfl,below_drewN ((Below.refl _ _).alloc (Nat.le_refl _) _) _⟩
theorem carrier_any (c:Int) (w:World) :
  Calls Tryz.prog 196 #[.int .u64 c] w fun e w'=>e=.returned (.func (.func 217) #[] #[.pointer (some ⟨w.heap.size,0,none⟩)])∧w.alloc (.cells #[.int .u64 c] 164)=w':=by
 have hmf:∀ (fn:Fn) (first cap:Array Value) (w:World),(Instr.makeFunc fn first cap).run Tryz.prog w=.ok (.func fn first cap) w:=fun _ _ _ _=>rfl;go_enter Tryz.func196,Tryz.ntmps196;go_wp2;go_ret;exact ⟨rfl,rfl⟩
theorem next_any (g:Nat) (x c:Int) (w:World) (hg:Blk w g 164 #[.int .u64 c]) (hx0:0≤x) (hc0:0≤c) (hx:x+c<18446744073709551616) :
  Calls Tryz.prog 217 #[.int .u64 x,.pointer (some ⟨g,0,none⟩)] w fun e w'=>e=.returned (.int .u32 ((x+c) % 4294967296))∧w.setCell ⟨g,0,none⟩ (.int .u64 ((x+c) / 4294967296))=w':=by
 obtain ⟨c0,f0⟩:=hg.one;have hs:IntKind.u64.wrap (x+c)=x+c:=by rw [IntKind.wrap_u64];omega
 have HX:=Hj hx;clear hx;go_enter Tryz.func217,Tryz.ntmps217;go_wp2;go_ret;exact ⟨rfl,rfl⟩
namespace Wd
theorem val_set {p:List Nat} {j:Nat} (d:Nat) (hj:j<p.length):val (p.set j d)+4294967296 ^ j*p[j]?.getD 0=val p+4294967296 ^ j*d:=by
 induction p generalizing j with
 | nil=>simp at hj
 | cons e p ih =>
  cases j with
  | zero=>simp [val];omega
  | succ j =>
   have h:=ih (j:=j) (by simpa using hj);simp only [List.set_cons_succ,val_cons,List.getElem?_cons_succ,Nat.pow_succ];grind
theorem Ws.set {p:List Nat} (h:Ws p) (j:Nat) {d:Nat} (hd:d<4294967296):Ws (p.set j d):=by
 intro x hx;rcases List.mem_or_eq_of_mem_set hx with h1|h1
 ·exact h x h1
 ·subst h1;exact hd
theorem get_set_other {p:List Nat} {i j:Nat} (d:Nat) (h:i≠j):(p.set i d)[j]?.getD 0=p[j]?.getD 0:=by
 rw [List.getElem?_set_ne h]
structure MInv (p0:List Nat) (x:Nat) (b:List Nat) (i k:Nat) (p:List Nat) (c:Nat):Prop where
 len:p.length=p0.length
 ws:Ws p
 cl:c<4294967296
 eq:val p+c*4294967296 ^ (i+k)=val p0+x*val (b.take k)*4294967296 ^ i
 rest:∀ j,i+k≤j→p[j]?.getD 0=p0[j]?.getD 0
theorem MInv.start {p0:List Nat} (x:Nat) (b:List Nat) (i:Nat) (h:Ws p0):MInv p0 x b i 0 p0 0 :=
 ⟨rfl,h,by decide,by simp [val],fun _ _=>rfl⟩
theorem MInv.bound {p0 b p:List Nat} {x i k c:Nat} (h:MInv p0 x b i k p c) (hx:x<4294967296) (hb:Ws b) :
  p[i+k]?.getD 0+x*b[k]?.getD 0+c<18446744073709551616:=by
 have h1:=h.ws.get (i+k);have h2:=hb.get k;have h3:=h.cl;have h4:x*b[k]?.getD 0≤4294967295*4294967295:=Nat.mul_le_mul (by omega) (by omega);omega
theorem MInv.step {p0 b p:List Nat} {x i k c:Nat} (h:MInv p0 x b i k p c) (hx:x<4294967296) (hb:Ws b) (hk:k<b.length) (hl:i+k<p0.length) :
  MInv p0 x b i (k+1) (p.set (i+k) ((p[i+k]?.getD 0+x*b[k]?.getD 0+c) % 4294967296)) ((p[i+k]?.getD 0+x*b[k]?.getD 0+c) / 4294967296):=by
 have hbd:=h.bound hx hb;have hset:=val_set (p:=p) (j:=i+k) ((p[i+k]?.getD 0+x*b[k]?.getD 0+c) % 4294967296) (by rw [h.len];exact hl);have he:=h.eq;refine ⟨by rw [List.length_set];exact h.len,h.ws.set _ (Nat.mod_lt _ (by decide)),?_,?_,?_⟩
 ·omega
 ·have ht:b.take (k+1)=b.take k ++ [b[k]?.getD 0]:=by
   rw [List.take_succ_eq_append_getElem hk,List.getElem?_eq_getElem hk];rfl
  rw [ht,val_snoc,List.length_take,Nat.min_eq_left (by omega)];rw [show i+(k+1)=(i+k)+1 by omega,Nat.pow_succ];rw [show 4294967296 ^ (i+k)=4294967296 ^ i*4294967296 ^ k from Nat.pow_add ..] at *;generalize p[i+k]?.getD 0=q at *;generalize b[k]?.getD 0=y at *;generalize hT:q+x*y+c=T at *;have hdm:=Nat.div_add_mod T 4294967296;generalize T / 4294967296=D at *;generalize T % 4294967296=R at *;generalize val (p.set (i+k) R)=V at *;generalize val p=U at *;generalize val p0=U0 at *;generalize val (b.take k)=Y at *;generalize 4294967296 ^ i=M at *;generalize 4294967296 ^ k=N at *;subst hT;have e1:M*N*(4294967296*D+R)=M*N*(q+x*y+c):=by rw [hdm]
  grind
 ·intro j hj;rw [get_set_other _ (by omega)];exact h.rest j (by omega)
theorem MInv.last {p0 b p:List Nat} {x i c:Nat} (h:MInv p0 x b i b.length p c) (hl:i+b.length<p0.length) (hz:p0[i+b.length]?.getD 0=0) :
  Ws (p.set (i+b.length) c)∧(p.set (i+b.length) c).length=p0.length∧val (p.set (i+b.length) c)=val p0+x*val b*4294967296 ^ i∧∀ j,i+1+b.length≤j→(p.set (i+b.length) c)[j]?.getD 0=p0[j]?.getD 0:=by
 have hset:=val_set (p:=p) (j:=i+b.length) c (by rw [h.len];exact hl);have h0:p[i+b.length]?.getD 0=0:=by rw [h.rest _ (Nat.le_refl _),hz]
 have he:=h.eq;rw [List.take_length] at he;rw [h0] at hset;refine ⟨h.ws.set _ h.cl,by rw [List.length_set];exact h.len,?_,fun j hj=>?_⟩
 ·grind
 ·rw [get_set_other _ (by omega)];exact h.rest j (by omega)
structure OInv (a b:List Nat) (i:Nat) (p:List Nat):Prop where
 len:p.length=a.length+b.length
 ws:Ws p
 eq:val p=val (a.take i)*val b
 rest:∀ j,i+b.length≤j→p[j]?.getD 0=0
theorem OInv.start (a b:List Nat):OInv a b 0 (List.replicate (a.length+b.length) 0) :=
 ⟨by simp,fun d hd=>by rw [List.eq_of_mem_replicate hd];decide,by rw [val_replicate_zero];simp [val],fun j _=>by
  rw [List.getElem?_replicate];split<;>rfl⟩
theorem OInv.step {a b p0 p:List Nat} {i c:Nat} (h:OInv a b i p0) (hi:i<a.length) (hm:MInv p0 (a[i]?.getD 0) b i b.length p c):OInv a b (i+1) (p.set (i+b.length) c):=by
 obtain ⟨h1,h2,h3,h4⟩:=hm.last (by rw [h.len];omega) (h.rest _ (Nat.le_refl _));refine ⟨h2.trans h.len,h1,?_,fun j hj=>?_⟩
 ·rw [h3,h.eq];have ht:a.take (i+1)=a.take i ++ [a[i]?.getD 0]:=by
   rw [List.take_succ_eq_append_getElem hi,List.getElem?_eq_getElem hi];rfl
  rw [ht,val_snoc,List.length_take,Nat.min_eq_left (by omega)];grind
 ·rw [h4 j hj];exact h.rest j (by omega)
theorem OInv.done {a b p:List Nat} (h:OInv a b a.length p):val p=val a*val b:=by
 rw [h.eq,List.take_length]
end Wd
end Go.Proofs.YtjajigkacccdgaaGreat
namespace Go.Proofs.YtjajigkacccdgaaGreat
open Go.RowKit
open Wd
theorem made_one (z:Value) (n:Nat):madeCells #[z] n=Array.replicate n z:=by
 apply Array.ext
 ·simp [madeCells]
 ·intro i h1 h2;simp [madeCells];have:i % 1=0:=by omega
  simp [this]
def wcells (p:List Nat):Array Value:=(u32s p).toArray
theorem wcells_zero (n:Nat):madeCells #[.int .u32 0] n=wcells (List.replicate n 0):=by
 rw [made_one];unfold wcells u32s;simp
theorem run_make_u32 (k:Nat) (hk:k≤1000000000000) (w:World) :
  (Instr.makeSlice 38 (.int .i64 (k:Int)) (.int .i64 (k:Int))).run Tryz.prog w=.ok (.slice (some ⟨w.heap.size,0,none⟩) k k) (w.alloc (.cells (wcells (List.replicate k 0)) 59)):=by
 obtain ⟨i0,hi,hz0,hz1,hz2⟩:=info_parts info_u32;have h:=run_make (P:=Tryz.prog) w 38 59 i0 (.int .u32 0) Tryz.underlying38 hi hz0 .i64 .i64 k k (by omega) (Int.le_refl _) (by rw [hz2];omega) (by omega);rw [h,hz1];simp only [Int.toNat_natCast,Nat.mul_one,Value.cells];rw [wcells_zero]
theorem Blk.word {w:World} {g:Nat} {t:TypeId} {p:List Nat} (h:Blk w g t (wcells p)) {j:Nat} (hj:j<p.length):w.cell? ⟨g,j,none⟩=some (.int .u32 ((p[j]?.getD 0:Nat):Int)):=by
 rw [h.cell j];unfold wcells;rw [List.getElem?_toArray,u32s_get,List.getElem?_eq_getElem hj]
 rfl
theorem Blk.setWord {w:World} {g:Nat} {t:TypeId} {p:List Nat} (h:Blk w g t (wcells p)) (j d:Nat):Blk (w.setCell ⟨g,j,none⟩ (.int .u32 (d:Int))) g t (wcells (p.set j d)):=by
 have:=h.set j (.int .u32 (d:Int));have e:(wcells p).setIfInBounds j (.int .u32 (d:Int))=wcells (p.set j d):=by
  unfold wcells u32s;rw [List.setIfInBounds_toArray,← List.map_set]
 rwa [e] at this
theorem Blk.wat {w:World} {g base:Nat} {p:List Nat} {t:TypeId} (h:Blk w g t (wcells p)) (hp:Ws p) (hb:base≤g):Wat w (some ⟨g,0,none⟩) p.length p∧Fresh base w (some ⟨g,0,none⟩) p.length :=
 ⟨⟨rfl,hp,fun _=>⟨g,0,rfl,h.lt,fun j hj=>by rw [Nat.zero_add];exact h.word hj⟩⟩,fun _=>⟨g,0,rfl,hb,fun j _=>by rw [Nat.zero_add];exact h.frozen j⟩⟩
def MulO (w:World) (g:Nat) (a b:List Nat) (i:Nat) (p:List Nat) (wr:World):Prop :=
 OInv a b i p∧Blk wr g 59 (wcells p)∧Below w.heap.size w wr
def MulI (w:World) (g h:Nat) (p0:List Nat) (x:Nat) (b:List Nat) (i k:Nat) (p:List Nat) (c:Nat) (wr:World):Prop :=
 MInv p0 x b i k p c∧Blk wr g 59 (wcells p)∧Blk wr h 164 #[.int .u64 (c:Int)]∧Below w.heap.size w wr
theorem mulWords_any (A A':Option Addr) (n n' c c':Nat) (l l':List Nat) (w:World) (h:Wat w A n l) (h':Wat w A' n' l') (hm:n≤100000000000) (hm':n'≤100000000000) :
  Calls Tryz.prog 145 #[.slice A n c,.slice A' n' c'] w fun e w'=>∃ p,RetW w (n+n') p e w'∧val p=val l*val l':=by
 have hmk:=fun w=>run_make_u32 (n+n') (by omega) w;rw [show ((n+n':Nat):Int)=(n:Int)+(n':Int) by omega] at hmk;have hl:=h.1;have hl':=h'.1;have HL:=Hj hl;have HL':=Hj hl';clear hl hl';go_enter Tryz.func145,Tryz.ntmps145
 go_wp2_with fail
 have hstart:MulO w w.heap.size l l' 0 (List.replicate (n+n') 0) (w.alloc (.cells (wcells (List.replicate (n+n') 0)) 59)) :=
  ⟨by have:=OInv.start l l';rw [HL.out,HL'.out] at this;exact this,Blk.new _ _ _,(Below.refl _ _).alloc (Nat.le_refl _) _⟩
 generalize w.alloc (.cells (wcells (List.replicate (n+n') 0)) 59)=W0 at *;generalize List.replicate (n+n') 0=p0 at *
 go_loopw [19] (fun t wr=>∃ (i:Nat) (p:List Nat),i≤n∧t=.int .i64 i∧MulO w w.heap.size l l' i p wr) (fun t _=>n-(intOf t).toNat)
 case atStart=>exact ⟨0,p0,Nat.zero_le _,rfl,hstart⟩
 case round =>
  obtain ⟨i,p,hi,rfl,hO,hP,hB⟩:=hrel;clear hmk hstart;by_cases hlt:i<n
  ·have hW:=h.below hB;obtain ⟨b,o,rfl,hb,hcell⟩:=hW.2.2 (by omega);have hck:=hcell i hlt;have hx:=h.2.1.get i;clear hcell hW;generalize hxe:l[i]?.getD 0=x at *;have HX:=Hj hxe;clear hxe
   go_wp2_with fail
   refine (carrier_any 0 wr).mono ?_;rintro e w1 ⟨rfl,rfl⟩
   go_wp2_with fail
   have hst:MulI w w.heap.size wr.heap.size p x l' i 0 p 0 (wr.alloc (.cells #[.int .u64 0] 164)) :=
    ⟨MInv.start x l' i hO.ws,hP.alloc _,Blk.new _ _ _,hB.alloc hB.size _⟩
   have hne:w.heap.size<wr.heap.size:=hP.lt;have hO':=Hj hO;clear hO hP hB hck;generalize wr.alloc (.cells #[.int .u64 0] 164)=W1 at *;generalize hge:wr.heap.size=g at *;clear hge
   go_loopw [27] (fun t wr=>∃ (k:Nat) (q:List Nat) (cc:Nat),k≤n'∧t=.int .i64 k∧MulI w w.heap.size g p x l' i k q cc wr) (fun t _=>n'-(intOf t).toNat)
   case atStart=>exact ⟨0,p,0,Nat.zero_le _,rfl,hst⟩
   case round =>
    obtain ⟨k,q,cc,hk,rfl,hI,hP,hG,hB⟩:=hrel;clear hst;by_cases hlt2:k<n'
    ·have hW:=h'.below hB;obtain ⟨b',o',rfl,hb',hcell⟩:=hW.2.2 (by omega);have hck:=hcell k hlt2;have hy:=h'.2.1.get k;have hjl:i+k<q.length:=by rw [hI.len,hO'.out.len,HL.out,HL'.out];omega
     have hpc:=hP.word hjl;have hpl:=hI.ws.get (i+k);have hcl:=hI.cl;have hbd:=hI.bound hx h'.2.1;have hst:=hI.step hx h'.2.1 (k:=k) (by rw [HL'.out];exact hlt2) (by rw [← hI.len];exact hjl);generalize q[i+k]?.getD 0=v at *;generalize l'[k]?.getD 0=y at *;have hxy:(x:Int)*(y:Int)=((x*y:Nat):Int):=by omega
     have hmu:(x:Int)*(y:Int)≤18446744065119617025:=by
      have:x*y≤4294967295*4294967295:=Nat.mul_le_mul (by omega) (by omega);omega
     have hm0:(0:Int)≤(x:Int)*(y:Int):=by omega
     have HBD:=Hj hbd;have HXY:=Hj hxy;have HST:=Hj hst;have HMU:=Hj hmu;have hw1:IntKind.u64.wrap ((x:Int)*(y:Int))=(x:Int)*(y:Int):=by rw [IntKind.wrap_u64];omega
     have hw2:IntKind.u64.wrap ((v:Int)+(x:Int)*(y:Int))=(v:Int)+(x:Int)*(y:Int):=by rw [IntKind.wrap_u64];omega
     clear hcell hW hst hbd hxy hmu
     go_wp2_with fail
     have e1:((v:Int)+(x:Int)*(y:Int)+(cc:Int)) % 4294967296=(((v+x*y+cc) % 4294967296:Nat):Int):=by rw [HXY.out];omega
     have e2:((v:Int)+(x:Int)*(y:Int)+(cc:Int)) / 4294967296=(((v+x*y+cc) / 4294967296:Nat):Int):=by rw [HXY.out];omega
     refine (next_any g _ cc wr hG (by have:=HXY.out;omega) (by omega) (by have:=HXY.out;have:=HBD.out;omega)).mono ?_;rw [e1,e2];generalize (v+x*y+cc) % 4294967296=r at *;generalize (v+x*y+cc) / 4294967296=d at *;rintro e w1 ⟨rfl,rfl⟩;have hP1:=hP.far (p:=⟨g,0,none⟩) (by simp;omega) (.int .u64 (d:Int));have hG1:=hG.set 0 (.int .u64 (d:Int));have hB1:=hB.setCell (p:=⟨g,0,none⟩) (by simp;omega) (.int .u64 (d:Int));have hP2:=hP1.setWord (i+k) r;have hG2:=hG1.far (p:=⟨w.heap.size,i+k,none⟩) (by simp;omega) (.int .u32 (r:Int));have hB2:=hB1.setCell (p:=⟨w.heap.size,i+k,none⟩) (by simp) (.int .u32 (r:Int));have hc1:=hP1.word hjl;have hf1:=hP1.frozen (i+k);have hil:i+k<n+n':=by omega
     clear e1 e2 hP hG hB hP1 hG1 hB1 hI hck hpc hw1 hw2 HMU HXY hm0;generalize wr.setCell ⟨g,0,none⟩ (.int .u64 (d:Int))=w2 at *;go_wp2;go_roundw
     case rel=>exact ⟨k+1,_,d,by omega,by go_num,HST.out,hP2,hG2,hB2⟩
     case measure=>simp [intOf];omega
    ·obtain rfl:k=n':=by omega
     have hjl:i+k<q.length:=by rw [hI.len,hO'.out.len,HL.out,HL'.out];omega
     have hcl:=hI.cl;rw [← HL'.out] at hI;rw [← HX.out] at hI;have hst:=hO'.out.step (i:=i) (by rw [HL.out];exact hlt) hI;rw [HL'.out] at hst;have HST:=Hj hst;have hpc:=hP.word hjl;clear hI hst
     go_wp2_with fail
     refine (next_any g 0 cc wr hG (by omega) (by omega) (by omega)).mono ?_;rw [show ((0:Int)+(cc:Int)) % 4294967296=((cc:Nat):Int) by omega];generalize ((0:Int)+(cc:Int)) / 4294967296=d at *;rintro e w1 ⟨rfl,rfl⟩;have hP1:=hP.far (p:=⟨g,0,none⟩) (by simp;omega) (.int .u64 d);have hB1:=hB.setCell (p:=⟨g,0,none⟩) (by simp;omega) (.int .u64 d);have hP2:=hP1.setWord (i+k) cc;have hB2:=hB1.setCell (p:=⟨w.heap.size,i+k,none⟩) (by simp) (.int .u32 (cc:Int));have hc1:=hP1.word hjl;have hf1:=hP1.frozen (i+k);have hil:i+k<n+k:=by omega
     clear hP hG hB hP1 hB1 hpc;generalize wr.setCell ⟨g,0,none⟩ (.int .u64 d)=w2 at *;go_wp2;go_roundw
     case rel=>exact ⟨i+1,_,by omega,by go_num,HST.out,hP2,hB2⟩
     case measure=>simp [intOf];omega
  ·obtain rfl:i=n:=by omega
   have hlen:p.length=i+n':=by rw [hO.len,HL.out,HL'.out]
   have hw:=hP.wat hO.ws (Nat.le_refl w.heap.size);rw [hlen] at hw;have HV:Hid (∃ p,RetW w (i+n') p (.returned (.slice (some ⟨w.heap.size,0,none⟩) (i+n') (i+n'))) wr∧val p=val l*val l'):=⟨p,⟨_,_,rfl,Nat.le_refl _,by simp only [maxLen];omega,hw.1,hw.2,hB⟩,by rw [← HL.out] at hO;exact hO.done⟩;clear hlen hw hO hP hB;go_wp2;go_ret;exact HV.out
theorem sg_mul (a b:Bool) (m n:Nat):sg (a != b) (m*n)=sg a m*sg b n:=by
 unfold sg;cases a<;>cases b<;>simp [Int.mul_neg,Int.neg_mul]
theorem len_one {m:Nat} (h:(digs m).length≤1):m<4294967296:=by
 have:=digs_len_le.1 h;simpa using this
theorem small_int (neg:Bool) (z:Int) (w:World) (h0:0≤z) (hn:z<18446744073709551616) :
  Calls Tryz.prog 135 #[.bool neg,.int .u64 z] w (RetZ w (sg neg z.toNat)):=by
 obtain ⟨n,rfl⟩:=Int.eq_ofNat_of_zero_le h0;exact small_any neg n w (by omega)
theorem low_bel (A:Option Addr) (n c:Nat) (l:List Nat) (w:World) (h:Wat w A n l) (hn:n≤2) :
  Calls Tryz.prog 143 #[.slice A n c] w fun e w'=>e=.returned (.int .u64 (val l:Nat))∧Below w.heap.size w w' :=
 (low_any A n c l w h hn).mono fun _ _ ⟨he,k,hk⟩=>⟨he,by rw [hk];exact belowN _ _⟩
theorem mul_any (neg neg':Bool) (A A':Option Addr) (n n' c c':Nat) (l l':List Nat) (w:World) (h:Wat w A n l) (h':Wat w A' n' l') (hnc:n≤c) (hnc':n'≤c') (hm:n≤100000000000) (hm':n'≤100000000000) :
  Calls Tryz.prog 97 #[.agg #[.bool neg,.slice A n c],.agg #[.bool neg',.slice A' n' c']] w (RetZ w (sg neg (val l)*sg neg' (val l'))):=by
 rw [← sg_mul];go_enter Tryz.func97,Tryz.ntmps97
 go_wp2_with fail
 obtain ⟨hB0,hB1,hB2,hBW,hsz⟩:=pre3 w 40 #[.bool neg,.slice A n c] 40 #[.bool neg',.slice A' n' c'] 40 #[.bool false,.slice none 0 0];generalize ((w.alloc (.cells #[.bool neg,.slice A n c] 40)).alloc (.cells #[.bool neg',.slice A' n' c'] 40)).alloc (.cells #[.bool false,.slice none 0 0] 40)=W at *;have HSZ:=Hj hsz;clear hsz;have s4:=RS.start hB2;have hw:∀ w',RS (w.heap.size+1+1) 40 W w'→Wat w' A n l∧Wat w' A' n' l':=fun w' hk=>⟨h.below (hBW.trans (hk.1.mono (by omega))),h'.below (hBW.trans (hk.1.mono (by omega)))⟩;have HW:=Hj hw;have hle:=h.trim_le;have hle':=h'.trim_le;clear hw;have T1:=Hj (fun W1 (hb:RS (w.heap.size+1+1) 40 W W1)=>trim_any A n c l W1 (HW.out _ hb).1 hnc (by omega));have T2:=Hj (fun W1 (hb:RS (w.heap.size+1+1) 40 W W1)=>trim_any A' n' c' l' W1 (HW.out _ hb).2 hnc' (by omega));obtain ⟨c0,c1,-,-⟩:=hB0.two;obtain ⟨c2,c3,-,-⟩:=hB1.two
 go_quiet ((first|(go_at_call_of 141 (Value.slice A n c);exact quiet_left (T1.out _ (s4.drewN _)))|(go_at_call_of 141 (Value.slice A' n' c');exact quiet_left (T2.out _ (s4.drewN _)))))
 have s5:=s4.drewN nq;clear T1 T2 s4 c0 c1 c2 c3;have hT:=fun W1 (hb:RS (w.heap.size+1+1) 40 W W1)=>(HW.out _ hb).1.trim;have hT':=fun W1 (hb:RS (w.heap.size+1+1) 40 W W1)=>(HW.out _ hb).2.trim;have HT:=Hj hT;have HT':=Hj hT';have hv1:=@len_one (val l);have hv2:=@len_one (val l');clear hT hT' HW;have hvd:=val_digs (val l);have hvd':=val_digs (val l');have HVD:=Hj hvd;have HVD':=Hj hvd';clear hvd hvd';generalize val l=m at *;generalize val l'=m' at *;by_cases hb:(digs m).length≤1∧(digs m').length≤1
 ·obtain ⟨hb1,hb2⟩:=hb;have hv1:=hv1 hb1;have hv2:=hv2 hb2;generalize digs m=D at *;generalize digs m'=D' at *;generalize D.length=k at *;generalize D'.length=k' at *;have hp:m*m'<18446744073709551616:=by
   have:m*m'≤4294967295*4294967295:=Nat.mul_le_mul (by omega) (by omega);omega
  have hmm:(m:Int)*(m':Int)=((m*m':Nat):Int):=by omega
  have hw1:IntKind.u64.wrap ((m:Int)*(m':Int))=(m:Int)*(m':Int):=by
   rw [IntKind.wrap_u64,hmm];omega
  have HMM:=Hj hmm;have HP:=Hj hp;clear hmm hp hv1 hv2
  go_wp2_with fail
  have hS:∀ w',RS (w.heap.size+1+1) 40 W w'→(w'.cell? ⟨w.heap.size,0,none⟩=some (.bool neg)∧w'.cell? ⟨w.heap.size,1,none⟩=some (.slice A n c)∧w'.cell? ⟨w.heap.size+1,0,none⟩=some (.bool neg')∧w'.cell? ⟨w.heap.size+1,1,none⟩=some (.slice A' n' c'))∧RS (w.heap.size+1+1) 40 W w':=fun w' hk=>⟨⟨(hk.blk hB0 (by omega)).cell 0,(hk.blk hB0 (by omega)).cell 1,(hk.blk hB1 (by omega)).cell 0,(hk.blk hB1 (by omega)).cell 1⟩,hk⟩;have HS:=Hj hS;clear hS;clear hB2
  go_region_held3 (fun w'=>(w'.cell? ⟨w.heap.size,0,none⟩=some (.bool neg)∧w'.cell? ⟨w.heap.size,1,none⟩=some (.slice A n c)∧w'.cell? ⟨w.heap.size+1,0,none⟩=some (.bool neg')∧w'.cell? ⟨w.heap.size+1,1,none⟩=some (.slice A' n' c'))∧RS (w.heap.size+1+1) 40 W w')
   (with_reducible first|(refine HS.out _ ?_;assumption)|(refine HS.out _ (RS.drew ?_);assumption)|(refine' HS.out _ (RS.drew (And.right ?_));rotate_left;assumption)|(refine' HS.out _ (RS.set (And.right ?_) _ _);rotate_left;assumption))
   (first
    | (go_at_call_of 143 (Value.slice A k c);have hk:=And.right ‹_∧RS (w.heap.size+1+1) 40 W _›;refine (low_bel A _ c _ _ (HT.out _ hk) (by omega)).mono ?_;rw [HVD.out];rintro e w1 ⟨rfl,hb1⟩;have hr1:=hk.call hb1)
    | (go_at_call_of 143 (Value.slice A' k' c');have hk:=And.right ‹_∧RS (w.heap.size+1+1) 40 W _›;refine (low_bel A' _ c' _ _ (HT'.out _ hk) (by omega)).mono ?_;rw [HVD'.out];rintro e w2 ⟨rfl,hb2⟩;have hr2:=hk.call hb2)
    | (go_at_call 135;have hk:=And.right ‹_∧RS (w.heap.size+1+1) 40 W _›;refine (small_int (neg != neg') _ _ (by rw [HMM.out];omega) (by rw [HMM.out];have:=HP.out;omega)).mono ?_;rw [HMM.out,Int.toNat_natCast];rintro e w3 ⟨A3,k3,c3,rfl,hk3,hW3,hF3,hb3⟩;have hz3:=hk.1.size;have hr3:=hk.call hb3;obtain ⟨_,_,c0,c1,f0,f1⟩:=hr3.two))
  have hfin:=retZ_close hBW (by omega) (by have:=HSZ.out;omega) hr3 hk3 hW3 hF3;obtain ⟨d0,d1,-,-⟩:=(hr3.done (.bool (decide (sg (neg != neg') (m*m')<0))) (.slice A3 k3 c3)).two;have HF:=Hj hfin;clear hfin;go_wp2;refine bodyPost_ret (v:=.agg #[.bool (decide (sg (neg != neg') (m*m')<0)),.slice A3 k3 c3]) ?_ rfl HF.out;simp [results,Tryz.results97,go_sem,d0,d1]
 ·have hb':¬ ((digs m).length≤1)∨((digs m).length≤1∧¬ ((digs m').length≤1)):=by omega
  clear hb hv1 hv2;have hmu:=fun W1 (hb:RS (w.heap.size+1+1) 40 W W1)=>mulWords_any A A' _ _ c c' _ _ W1 (HT.out _ hb) (HT'.out _ hb) (by omega) (by omega);rw [HVD.out,HVD'.out] at hmu;have HMU:=Hj hmu;clear hmu;generalize digs m=D at *;generalize digs m'=D' at *;generalize D.length=k at *;generalize D'.length=k' at *;rcases hb' with hb1|⟨hb1,hb2⟩
  all_goals
   go_wp2_with fail
   have hS:∀ w',RS (w.heap.size+1+1) 40 W w'→(w'.cell? ⟨w.heap.size,0,none⟩=some (.bool neg)∧w'.cell? ⟨w.heap.size,1,none⟩=some (.slice A n c)∧w'.cell? ⟨w.heap.size+1,0,none⟩=some (.bool neg')∧w'.cell? ⟨w.heap.size+1,1,none⟩=some (.slice A' n' c'))∧RS (w.heap.size+1+1) 40 W w':=fun w' hk=>⟨⟨(hk.blk hB0 (by omega)).cell 0,(hk.blk hB0 (by omega)).cell 1,(hk.blk hB1 (by omega)).cell 0,(hk.blk hB1 (by omega)).cell 1⟩,hk⟩;have HS:=Hj hS;clear hS;clear hB2
   go_region_held3 (fun w'=>(w'.cell? ⟨w.heap.size,0,none⟩=some (.bool neg)∧w'.cell? ⟨w.heap.size,1,none⟩=some (.slice A n c)∧w'.cell? ⟨w.heap.size+1,0,none⟩=some (.bool neg')∧w'.cell? ⟨w.heap.size+1,1,none⟩=some (.slice A' n' c'))∧RS (w.heap.size+1+1) 40 W w')
    (with_reducible first|(refine HS.out _ ?_;assumption)|(refine HS.out _ (RS.drew ?_);assumption)|(refine' HS.out _ (RS.drew (And.right ?_));rotate_left;assumption)|(refine' HS.out _ (RS.set (And.right ?_) _ _);rotate_left;assumption))
    (first
     | (go_at_call 145;have hk:=And.right ‹_∧RS (w.heap.size+1+1) 40 W _›;refine (HMU.out _ hk).mono ?_;rintro e w1 ⟨p1,⟨A1,c1,rfl,hk1,hcm1,hW1,hF1,hb1⟩,hp1⟩;have hz1:=hk.1.size;have hr1:=hk.call hb1;have HP:=Hj hp1;clear hp1)
     | (go_at_call 144;have hk:=And.right ‹_∧RS (w.heap.size+1+1) 40 W _›;refine (build_any (neg != neg') A1 _ c1 _ _ hW1 hk1 (by omega)).mono ?_;intro e w2 hr;have hr:=RetZ.of_in hb1 hW1 hF1 hk1 hr;rw [HP.out] at hr;obtain ⟨A2,k2,c2,rfl,hk2,hW2,hF2,hb2⟩:=hr;have hr2:=RS.call ‹RS _ _ W (World.drew _)› hb2;obtain ⟨_,_,c0,c1,f0,f1⟩:=hr2.two))
   have hfin:=retZ_close hBW (by omega) (by have:=HSZ.out;omega) hr2 hk2 hW2 hF2;obtain ⟨d0,d1,-,-⟩:=(hr2.done (.bool (decide (sg (neg != neg') (m*m')<0))) (.slice A2 k2 c2)).two;have HF:=Hj hfin;clear hfin hr;go_wp2;refine bodyPost_ret (v:=.agg #[.bool (decide (sg (neg != neg') (m*m')<0)),.slice A2 k2 c2]) ?_ rfl HF.out;simp [results,Tryz.results97,go_sem,d0,d1]
end Go.Proofs.YtjajigkacccdgaaGreat
