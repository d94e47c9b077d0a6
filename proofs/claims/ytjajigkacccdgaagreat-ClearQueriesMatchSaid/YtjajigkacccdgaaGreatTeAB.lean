/-
Lemmas of the walk; no further conditions.
-/
import Derived.Test.YtjajigkacccdgaaGreatTeAA
import Derived.OwnWalk
import Derived.Laws.MakeOwn
set_option linter.unusedVariables false
set_option linter.unusedSimpArgs false
set_option maxRecDepth 100000
set_option maxHeartbeats 16000000
namespace Go.Proofs.YtjajigkacccdgaaGreat
open Go.RowKit
open Wd
def u32s (l:List Nat):List Value:=l.map fun d:Nat=>.int .u32 (d:Int)
theorem u32s_get (l:List Nat) (j:Nat):(u32s l)[j]?=l[j]?.map fun d:Nat=>Value.int .u32 (d:Int):=by simp [u32s]
theorem u32s_one (l:List Nat):∀ u∈u32s l,u.oneCell'=true:=by
 intro u hu;simp only [u32s,List.mem_map] at hu;obtain ⟨d,_,rfl⟩:=hu
 rfl
theorem u32s_append (a b:List Nat):u32s (a ++ b)=u32s a ++ u32s b:=by simp [u32s]
theorem addr_add (b o j:Nat):(⟨b,o,none⟩:Addr).add j=⟨b,o+j,none⟩:=by
 unfold Addr.add;split
 ·rename_i h;subst h;rfl
 ·rfl
theorem Wat.news {w:World} {ad:Addr} {n:Nat} {l:List Nat} (h:Wat w (some ad) n l):∀ j u,(u32s l)[j]?=some u→w.cell? (ad.add j)=some u:=by
 intro j u hu;rw [u32s_get] at hu;have hj:j<l.length:=by
  rcases Nat.lt_or_ge j l.length with hj|hj
  ·exact hj
  ·rw [List.getElem?_eq_none hj] at hu;cases hu
 have hn:=h.1;obtain ⟨b,o,he,_,hc⟩:=h.2.2 (by omega);cases he;rw [addr_add,hc j (by omega),← hu,List.getElem?_eq_getElem hj];simp
theorem info_u32:(Tryz.prog.info? 59).map (fun i=>(i.zero,i.size,i.bytes))=some (some (.int .u32 0),1,4):=by kernel_rfl
theorem wat_of_own {w:World} {base n:Nat} {v:Value} {l:List Nat} (hl:Ws l) (h:w.ownsRow base 59 1 v n (u32s l)) :
  ∃ A c,v=.slice A n c∧n≤c∧c≤maxLen∧Wat w A n l∧Fresh base w A n:=by
 have hlen:l.length=n:=by have:=h.1;simpa [u32s] using this
 rcases h.2 with ⟨rfl,rfl⟩|⟨g,cap,cur,rfl,hbg,hh,hnc,hcm,hcs,hxs⟩
 ·obtain rfl:l=[]:=List.eq_nil_of_length_eq_zero hlen;exact ⟨none,0,rfl,Nat.le_refl _,Nat.zero_le _,Wat.nil,Fresh.nil⟩
 ·have hlt:g<w.heap.size:=by
   rcases Nat.lt_or_ge g w.heap.size with hlt|hge
   ·exact hlt
   ·rw [Array.getElem?_eq_none hge] at hh;cases hh
  refine ⟨_,_,rfl,hnc,hcm,⟨hlen,hl,fun _=>⟨g,0,rfl,hlt,fun j hj=>?_⟩⟩,fun _=>⟨g,0,rfl,hbg,fun j _=>?_⟩⟩
  ·have hc:=h.cellAt j (by omega);rw [Nat.zero_add,hc,u32s_get,List.getElem?_eq_getElem (by omega)];simp
  ·rw [Nat.zero_add];exact h.frozenAt j
def RetW (w:World) (n:Nat) (l:List Nat) (e:Ending) (w':World):Prop :=
 ∃ A c,e=.returned (.slice A n c)∧n≤c∧c≤maxLen∧Wat w' A n l∧Fresh w.heap.size w' A n∧Below w.heap.size w w'
theorem clone_any (A:Option Addr) (n c:Nat) (l:List Nat) (w:World) (h:Wat w A n l) (hm:n≤1000000000000) :
  Calls Tryz.prog 154 #[.slice A n c] w (RetW w n l):=by
 rcases A with _|ad
 ·have h0:n=0:=by
   rcases Nat.eq_zero_or_pos n with h0|h0
   ·exact h0
   ·obtain ⟨b,o,he,_⟩:=h.2.2 (by omega);cases he
  subst h0;obtain rfl:l=[]:=List.eq_nil_of_length_eq_zero h.1;have hq:=fun w=>Lib.run_eql_slice_nil (P:=Tryz.prog) w 38 59 none 0 c 0 0 Tryz.underlying38;go_enter Tryz.func154,Tryz.ntmps154;go_wp2;go_ret;exact ⟨none,0,rfl,Nat.le_refl _,Nat.zero_le _,Wat.nil,Fresh.nil,Below.refl _ _⟩
 ·have hq:=fun w=>Lib.run_eql_slice_nil (P:=Tryz.prog) w 38 59 (some ad) n c 0 0 Tryz.underlying38;obtain ⟨i0,hi,hz0,hz1,hz2⟩:=info_parts info_u32;have hlen:(u32s l).length=n*1:=by simp [u32s,h.1]
  have HL:=Hj hlen;clear hlen;go_enter Tryz.func154,Tryz.ntmps154
  go_wp2_with (at_builtin;refine wpList_append_own _ rfl _ _ 38 rfl w.heap.size 59 i0 (.int .u32 0) 1 4 Tryz.underlying38 hi hz0 hz1 hz2 rfl (by decide) (.slice (some ⟨w.heap.size,0,none⟩) 0 0) 0 [] rfl ?c1 ad n c (u32s l) rfl HL.out ?c2 (u32s_one l) ?c3 ?c4 ?c5 ?_)
  case c1=>exact ⟨by simp,.inr ⟨w.heap.size,0,#[],rfl,Nat.le_refl _,heap_alloc_new _ _,Nat.le_refl _,Nat.zero_le _,rfl,rfl⟩⟩
  case c2=>exact (h.alloc _).news
  case c3=>simp only [maxLen];omega
  case c4=>omega
  case c5=>simp
  intro v1 w1 hown hgr _;have hown:w1.ownsRow w.heap.size 59 1 v1 n (u32s l):=by simpa using hown
  obtain ⟨A1,c1,rfl,hk,hcm,hW,hF⟩:=wat_of_own h.2.1 hown;have hB:Below w.heap.size w w1:=((Below.refl _ w).alloc (Nat.le_refl _) _).grown hgr (by simp) (fun k hk=>by simp [Value.ownBlock] at hk;omega);clear hi hz0 hz1 hz2 hown hgr;go_wp2;go_ret;exact ⟨A1,c1,rfl,hk,hcm,hW,hF,hB⟩
theorem RetZ.of_in {w0 w w':World} {A:Option Addr} {n c:Nat} {l:List Nat} {neg:Bool} {e:Ending} (hb:Below w0.heap.size w0 w) (hW:Wat w A n l) (hF:Fresh w0.heap.size w A n) (hnc:n≤c)
  (h:RetIn w A c (sg neg (val l)) e w'):RetZ w0 (sg neg (val l)) e w':=by
 obtain ⟨A',c',he,h1,h2,hB⟩:=h;have hna:=sg_natAbs neg (val l);by_cases hz:sg neg (val l)=0
 ·obtain ⟨rfl,rfl⟩:=h2 hz;rw [hna] at he;have h0:val l=0:=by have:=congrArg Int.natAbs hz;rw [hna] at this;exact this
  rw [h0,digs_zero] at he;refine ⟨none,0,0,?_,Nat.le_refl _,?_,Fresh.nil,hb.trans (hB.mono hb.size)⟩
  ·rw [h0];exact he
  ·rw [hna,h0,digs_zero];exact Wat.nil
 ·obtain ⟨rfl,rfl⟩:=h1 hz;rw [hna] at he;refine ⟨A',_,c',he,Nat.le_trans hW.trim_le hnc,?_,?_,hb.trans (hB.mono hb.size)⟩
  ·rw [hna];exact hW.trim.below hB
  ·exact (hF.shorter hW.trim_le).keep hW.trim hB
theorem neg_any (neg:Bool) (A:Option Addr) (n c:Nat) (l:List Nat) (w:World) (h:Wat w A n l) (hnc:n≤c) (hm:n≤1000000000000) :
  Calls Tryz.prog 140 #[.agg #[.bool neg,.slice A n c]] w (RetZ w (-(sg neg (val l)))):=by
 have hsn:sg (!neg) (val l) = -(sg neg (val l)):=by unfold sg;cases neg<;>simp
 rw [← hsn];clear hsn;go_enter Tryz.func140,Tryz.ntmps140
 go_wp2_with fail
 obtain ⟨hB0,hB1,hBW,hsz⟩:=pre2 w 40 #[.bool neg,.slice A n c] 40 #[.bool false,.slice none 0 0];generalize (w.alloc (.cells #[.bool neg,.slice A n c] 40)).alloc (.cells #[.bool false,.slice none 0 0] 40)=W at *;have HSZ:=Hj hsz;clear hsz;have s4:=RS.start hB1;have hw:∀ w',RS (w.heap.size+1) 40 W w'→Wat w' A n l:=fun w' hk=>h.below (hBW.trans (hk.1.mono (by omega)));have HW:=Hj hw;clear hw;have hS:∀ w',RS (w.heap.size+1) 40 W w'→(w'.cell? ⟨w.heap.size,0,none⟩=some (.bool neg)∧w'.cell? ⟨w.heap.size,1,none⟩=some (.slice A n c))∧RS (w.heap.size+1) 40 W w':=fun w' hk=>⟨⟨(hk.blk hB0 (by omega)).cell 0,(hk.blk hB0 (by omega)).cell 1⟩,hk⟩;have HS:=Hj hS;clear hS;clear hB0 hB1
 go_region_held3 (fun w'=>(w'.cell? ⟨w.heap.size,0,none⟩=some (.bool neg)∧w'.cell? ⟨w.heap.size,1,none⟩=some (.slice A n c))∧RS (w.heap.size+1) 40 W w')
  (first|exact HS.out _ (by assumption)|exact HS.out _ (RS.drew (by assumption))|exact HS.out _ (RS.drew (And.right (by assumption)))|exact HS.out _ (RS.set (And.right (by assumption)) _ _))
  (first
   | (go_at_call 141;have hk:=And.right ‹_∧RS (w.heap.size+1) 40 W _›;refine (trim_any A n c l _ (HW.out _ hk) hnc (by omega)).mono ?_;rintro e w1 ⟨rfl,rfl⟩)
   | (go_at_call 154;have hk:=And.right ‹_∧RS (w.heap.size+1) 40 W _›;refine (clone_any A _ c _ _ (HW.out _ hk).trim (by have:=h.trim_le;omega)).mono ?_;rintro e w1 ⟨A1,c1,rfl,hk1,hcm1,hW1,hF1,hb1⟩;have hr1:=hk.call hb1)
   | (go_at_call 144;have hk:=And.right ‹_∧RS (w.heap.size+1) 40 W _›;refine (build_any (!neg) A1 _ c1 _ _ hW1 hk1 (by have:=h.trim_le;omega)).mono ?_;intro e w2 hr;have hr:=RetZ.of_in hb1 hW1 hF1 hk1 hr;rw [val_digs] at hr;obtain ⟨A2,k2,c2,rfl,hk2,hW2,hF2,hb2⟩:=hr;have hr2:=RS.call ‹RS _ _ _ W.drew› hb2;obtain ⟨_,_,c0,c1,f0,f1⟩:=hr2.two))
 have hfin:=retZ_close hBW (by omega) (by have:=HSZ.out;show _<W.heap.size;omega) hr2 hk2 hW2 hF2;obtain ⟨d0,d1,-,-⟩:=(hr2.done (.bool (decide (sg (!neg) (val l)<0))) (.slice A2 k2 c2)).two;clear hr;have HF:=Hj hfin;clear hfin;go_wp2;refine bodyPost_ret (v:=.agg #[.bool (decide (sg (!neg) (val l)<0)),.slice A2 k2 c2]) ?_ rfl HF.out;simp [results,Tryz.results140,go_sem,d0,d1]
def Fits (z:Int):Prop:=-9223372036854775808≤z∧z≤9223372036854775807
theorem len_le_two {m:Nat} (h:m<18446744073709551616):(digs m).length≤2:=digs_len_le.2 (by rw [pow2];exact h)
theorem two_lt_len {m:Nat} (h:18446744073709551616≤m):2<(digs m).length:=digs_len_lt.2 (by rw [pow2];exact h)
theorem int64_yes (neg:Bool) (A:Option Addr) (n c:Nat) (l:List Nat) (w:World) (h:Wat w A n l) (hnc:n≤c) (hm:n≤1000000000000) (hz:Fits (sg neg (val l))) :
  Calls Tryz.prog 138 #[.agg #[.bool neg,.slice A n c]] w fun e w'=>e=.returned (.tuple #[.int .i64 (sg neg (val l)),.bool true])∧Below w.heap.size w w':=by
 obtain ⟨hz1,hz2⟩:=hz;have ht:=h.trim;have hle:=h.trim_le;have T1:=Hj (fun o=>trim_any A n c l (w.alloc o) (h.alloc o) hnc (by omega));generalize hv:val l=m at *;have hm2:m<18446744073709551616:=by unfold sg at hz1 hz2;cases neg<;>simp at hz1 hz2<;>omega
 have h2:=len_le_two hm2;have T2:=Hj (fun o=>low_any A _ c _ (w.alloc o) (ht.alloc o) h2);rw [val_digs] at T2;generalize (digs m).length=k at *;have HV:=Hj hv;clear hv ht;cases neg
 ·have hms:m<9223372036854775808:=by unfold sg at hz2;simp at hz2;omega
  have e:sg false m=(m:Int):=rfl;rw [e];have hd:decide ((9223372036854775808:Int)≤(m:Int))=false:=by simp;omega
  have HMS:=Hj hms;clear hz1 hz2 e hm2 hms;go_enter Tryz.func138,Tryz.ntmps138
  go_wp2_with fail
  refine (T1.out _).mono ?_;rintro e w' ⟨rfl,rfl⟩
  go_wp2_with fail
  refine (T2.out _).mono ?_;rintro e w' ⟨rfl,q,rfl⟩;go_wp2;go_ret2;refine ⟨?_,below_drewN ((Below.refl _ _).alloc (Nat.le_refl _) _) _⟩;have e:wrap64 (m:Int)=(m:Int):=by have:=HMS.out;unfold wrap64;omega
  simp [e]
 ·have hms:m≤9223372036854775808:=by unfold sg at hz1;simp at hz1;omega
  have e:sg true m = -(m:Int):=rfl;rw [e];have hd:decide ((9223372036854775808:Int)<(m:Int))=false:=by simp;omega
  have HMS:=Hj hms;clear hz1 hz2 e hm2 hms;go_enter Tryz.func138,Tryz.ntmps138
  go_wp2_with fail
  refine (T1.out _).mono ?_;rintro e w' ⟨rfl,rfl⟩
  go_wp2_with fail
  refine (T2.out _).mono ?_;rintro e w' ⟨rfl,q,rfl⟩;go_wp2;go_ret2;refine ⟨?_,below_drewN ((Below.refl _ _).alloc (Nat.le_refl _) _) _⟩;have e:wrap64 (IntKind.u64.wrap (-(m:Int))) = -(m:Int):=by
   have:=HMS.out;rw [IntKind.wrap_u64];unfold wrap64;omega
  simp [e]
theorem int64_no (neg:Bool) (A:Option Addr) (n c:Nat) (l:List Nat) (w:World) (h:Wat w A n l) (hnc:n≤c) (hm:n≤1000000000000) (hz:¬ Fits (sg neg (val l))) :
  Calls Tryz.prog 138 #[.agg #[.bool neg,.slice A n c]] w fun e w'=>e=.returned (.tuple #[.int .i64 0,.bool false])∧Below w.heap.size w w':=by
 have ht:=h.trim;have hle:=h.trim_le;have T1:=Hj (fun o=>trim_any A n c l (w.alloc o) (h.alloc o) hnc (by omega));generalize hv:val l=m at *;by_cases hbig:18446744073709551616≤m
 ·have h2:=two_lt_len hbig;generalize (digs m).length=k at *;clear hv ht hz hbig;go_enter Tryz.func138,Tryz.ntmps138
  go_wp2_with fail
  refine (T1.out _).mono ?_;rintro e w' ⟨rfl,rfl⟩;go_wp2;go_ret2;exact ⟨rfl,(Below.refl _ _).alloc (Nat.le_refl _) _⟩
 ·have h2:=len_le_two (m:=m) (by omega);have T2:=Hj (fun o=>low_any A _ c _ (w.alloc o) (ht.alloc o) h2);rw [val_digs] at T2;generalize (digs m).length=k at *;cases neg
  ·have hd:decide ((9223372036854775808:Int)≤(m:Int))=true:=by unfold Fits sg at hz;simp at hz ⊢;omega
   clear hv ht hz hbig;go_enter Tryz.func138,Tryz.ntmps138
   go_wp2_with fail
   refine (T1.out _).mono ?_;rintro e w' ⟨rfl,rfl⟩
   go_wp2_with fail
   refine (T2.out _).mono ?_;rintro e w' ⟨rfl,q,rfl⟩;go_wp2;go_ret2;exact ⟨rfl,below_drewN ((Below.refl _ _).alloc (Nat.le_refl _) _) _⟩
  ·have hd:decide ((9223372036854775808:Int)<(m:Int))=true:=by unfold Fits sg at hz;simp at hz ⊢;omega
   clear hv ht hz hbig;go_enter Tryz.func138,Tryz.ntmps138
   go_wp2_with fail
   refine (T1.out _).mono ?_;rintro e w' ⟨rfl,rfl⟩
   go_wp2_with fail
   refine (T2.out _).mono ?_;rintro e w' ⟨rfl,q,rfl⟩;go_wp2;go_ret2;exact ⟨rfl,below_drewN ((Below.refl _ _).alloc (Nat.le_refl _) _) _⟩
theorem carrier_any (c:Int) (w:World) :
  Calls Tryz.prog 196 #[.int .u64 c] w fun e w'=>e=.returned (.func (.func 217) #[] #[.pointer (some ⟨w.heap.size,0,none⟩)])∧w.alloc (.cells #[.int .u64 c] 164)=w':=by
 have hmf:∀ (fn:Fn) (first cap:Array Value) (w:World),(Instr.makeFunc fn first cap).run Tryz.prog w=.ok (.func fn first cap) w:=fun _ _ _ _=>rfl;go_enter Tryz.func196,Tryz.ntmps196;go_wp2;go_ret;exact ⟨rfl,rfl⟩
theorem next_any (g:Nat) (x c:Int) (w:World) (hg:Blk w g 164 #[.int .u64 c]) (hx0:0≤x) (hc0:0≤c) (hx:x+c<18446744073709551616) :
  Calls Tryz.prog 217 #[.int .u64 x,.pointer (some ⟨g,0,none⟩)] w fun e w'=>e=.returned (.int .u32 ((x+c) % 4294967296))∧w.setCell ⟨g,0,none⟩ (.int .u64 ((x+c) / 4294967296))=w':=by
 obtain ⟨c0,f0⟩:=hg.one;have hs:IntKind.u64.wrap (x+c)=x+c:=by rw [IntKind.wrap_u64];omega
 have HX:=Hj hx;clear hx;go_enter Tryz.func217,Tryz.ntmps217;go_wp2;go_ret;exact ⟨rfl,rfl⟩
namespace Wd
theorem val_set {p:List Nat} {j:Nat} (d:Nat) (hj:j<p.length):val (p.set j d)+4294967296 ^ j*p[j]?.getD 0=val p+4294967296 ^ j*d:=by
 induction p generalizing j with
 | nil=>simp at hj
 | cons e p ih =>
  cases j with
  | zero=>simp [val];omega
  | succ j =>
   have h:=ih (j:=j) (by simpa using hj);simp only [List.set_cons_succ,val_cons,List.getElem?_cons_succ,Nat.pow_succ];grind
theorem Ws.set {p:List Nat} (h:Ws p) (j:Nat) {d:Nat} (hd:d<4294967296):Ws (p.set j d):=by
 intro x hx;rcases List.mem_or_eq_of_mem_set hx with h1|h1
 ·exact h x h1
 ·subst h1;exact hd
theorem get_set_other {p:List Nat} {i j:Nat} (d:Nat) (h:i≠j):(p.set i d)[j]?.getD 0=p[j]?.getD 0:=by
 rw [List.getElem?_set_ne h]
structure MInv (p0:List Nat) (x:Nat) (b:List Nat) (i k:Nat) (p:List Nat) (c:Nat):Prop where
 len:p.length=p0.length
 ws:Ws p
 cl:c<4294967296
 eq:val p+c*4294967296 ^ (i+k)=val p0+x*val (b.take k)*4294967296 ^ i
 rest:∀ j,i+k≤j→p[j]?.getD 0=p0[j]?.getD 0
theorem MInv.start {p0:List Nat} (x:Nat) (b:List Nat) (i:Nat) (h:Ws p0):MInv p0 x b i 0 p0 0 :=
 ⟨rfl,h,by decide,by simp [val],fun _ _=>rfl⟩
theorem MInv.bound {p0 b p:List Nat} {x i k c:Nat} (h:MInv p0 x b i k p c) (hx:x<4294967296) (hb:Ws b) :
  p[i+k]?.getD 0+x*b[k]?.getD 0+c<18446744073709551616:=by
 have h1:=h.ws.get (i+k);have h2:=hb.get k;have h3:=h.cl;have h4:x*b[k]?.getD 0≤4294967295*4294967295:=Nat.mul_le_mul (by omega) (by omega);omega
theorem MInv.step {p0 b p:List Nat} {x i k c:Nat} (h:MInv p0 x b i k p c) (hx:x<4294967296) (hb:Ws b) (hk:k<b.length) (hl:i+k<p0.length) :
  MInv p0 x b i (k+1) (p.set (i+k) ((p[i+k]?.getD 0+x*b[k]?.getD 0+c) % 4294967296)) ((p[i+k]?.getD 0+x*b[k]?.getD 0+c) / 4294967296):=by
 have hbd:=h.bound hx hb;have hset:=val_set (p:=p) (j:=i+k) ((p[i+k]?.getD 0+x*b[k]?.getD 0+c) % 4294967296) (by rw [h.len];exact hl);have he:=h.eq;refine ⟨by rw [List.length_set];exact h.len,h.ws.set _ (Nat.mod_lt _ (by decide)),?_,?_,?_⟩
 ·omega
 ·have ht:b.take (k+1)=b.take k ++ [b[k]?.getD 0]:=by
   rw [List.take_succ_eq_append_getElem hk,List.getElem?_eq_getElem hk];rfl
  rw [ht,val_snoc,List.length_take,Nat.min_eq_left (by omega)];rw [show i+(k+1)=(i+k)+1 by omega,Nat.pow_succ];rw [show 4294967296 ^ (i+k)=4294967296 ^ i*4294967296 ^ k from Nat.pow_add ..] at *;generalize p[i+k]?.getD 0=q at *;generalize b[k]?.getD 0=y at *;generalize hT:q+x*y+c=T at *;have hdm:=Nat.div_add_mod T 4294967296;generalize T / 4294967296=D at *;generalize T % 4294967296=R at *;generalize val (p.set (i+k) R)=V at *;generalize val p=U at *;generalize val p0=U0 at *;generalize val (b.take k)=Y at *;generalize 4294967296 ^ i=M at *;generalize 4294967296 ^ k=N at *;subst hT;have e1:M*N*(4294967296*D+R)=M*N*(q+x*y+c):=by rw [hdm]
  grind
 ·intro j hj;rw [get_set_other _ (by omega)];exact h.rest j (by omega)
theorem MInv.last {p0 b p:List Nat} {x i c:Nat} (h:MInv p0 x b i b.length p c) (hl:i+b.length<p0.length) (hz:p0[i+b.length]?.getD 0=0) :
  Ws (p.set (i+b.length) c)∧(p.set (i+b.length) c).length=p0.length∧val (p.set (i+b.length) c)=val p0+x*val b*4294967296 ^ i∧∀ j,i+1+b.length≤j→(p.set (i+b.length) c)[j]?.getD 0=p0[j]?.getD 0:=by
 have hset:=val_set (p:=p) (j:=i+b.length) c (by rw [h.len];exact hl);have h0:p[i+b.length]?.getD 0=0:=by rw [h.rest _ (Nat.le_refl _),hz]
 have he:=h.eq;rw [List.take_length] at he;rw [h0] at hset;refine ⟨h.ws.set _ h.cl,by rw [List.length_set];exact h.len,?_,fun j hj=>?_⟩
 ·grind
 ·rw [get_set_other _ (by omega)];exact h.rest j (by omega)
structure OInv (a b:List Nat) (i:Nat) (p:List Nat):Prop where
 len:p.length=a.length+b.length
 ws:Ws p
 eq:val p=val (a.take i)*val b
 rest:∀ j,i+b.length≤j→p[j]?.getD 0=0
theorem OInv.start (a b:List Nat):OInv a b 0 (List.replicate (a.length+b.length) 0) :=
 ⟨by simp,fun d hd=>by rw [List.eq_of_mem_replicate hd];decide,by rw [val_replicate_zero];simp [val],fun j _=>by
  rw [List.getElem?_replicate];split<;>rfl⟩
theorem OInv.step {a b p0 p:List Nat} {i c:Nat} (h:OInv a b i p0) (hi:i<a.length) (hm:MInv p0 (a[i]?.getD 0) b i b.length p c):OInv a b (i+1) (p.set (i+b.length) c):=by
 obtain ⟨h1,h2,h3,h4⟩:=hm.last (by rw [h.len];omega) (h.rest _ (Nat.le_refl _));refine ⟨h2.trans h.len,h1,?_,fun j hj=>?_⟩
 ·rw [h3,h.eq];have ht:a.take (i+1)=a.take i ++ [a[i]?.getD 0]:=by
   rw [List.take_succ_eq_append_getElem hi,List.getElem?_eq_getElem hi];rfl
  rw [ht,val_snoc,List.length_take,Nat.min_eq_left (by omega)];grind
 ·rw [h4 j hj];exact h.rest j (by omega)
theorem OInv.done {a b p:List Nat} (h:OInv a b a.length p):val p=val a*val b:=by
 rw [h.eq,List.take_length]
end Wd
end Go.Proofs.YtjajigkacccdgaaGreat
namespace Go.Proofs.YtjajigkacccdgaaGreat
open Go.RowKit
open Wd
theorem made_one (z:Value) (n:Nat):madeCells #[z] n=Array.replicate n z:=by
 apply Array.ext
 ·simp [madeCells]
 ·intro i h1 h2;simp [madeCells];have:i % 1=0:=by omega
  simp [this]
def wcells (p:List Nat):Array Value:=(u32s p).toArray
theorem wcells_zero (n:Nat):madeCells #[.int .u32 0] n=wcells (List.replicate n 0):=by
 rw [made_one];unfold wcells u32s;simp
theorem run_make_u32 (k:Nat) (hk:k≤1000000000000) (w:World) :
  (Instr.makeSlice 38 (.int .i64 (k:Int)) (.int .i64 (k:Int))).run Tryz.prog w=.ok (.slice (some ⟨w.heap.size,0,none⟩) k k) (w.alloc (.cells (wcells (List.replicate k 0)) 59)):=by
 obtain ⟨i0,hi,hz0,hz1,hz2⟩:=info_parts info_u32;have h:=run_make (P:=Tryz.prog) w 38 59 i0 (.int .u32 0) Tryz.underlying38 hi hz0 .i64 .i64 k k (by omega) (Int.le_refl _) (by rw [hz2];omega) (by omega);rw [h,hz1];simp only [Int.toNat_natCast,Nat.mul_one,Value.cells];rw [wcells_zero]
theorem Blk.word {w:World} {g:Nat} {t:TypeId} {p:List Nat} (h:Blk w g t (wcells p)) {j:Nat} (hj:j<p.length):w.cell? ⟨g,j,none⟩=some (.int .u32 ((p[j]?.getD 0:Nat):Int)):=by
 rw [h.cell j];unfold wcells;rw [List.getElem?_toArray,u32s_get,List.getElem?_eq_getElem hj]
 rfl
theorem Blk.setWord {w:World} {g:Nat} {t:TypeId} {p:List Nat} (h:Blk w g t (wcells p)) (j d:Nat):Blk (w.setCell ⟨g,j,none⟩ (.int .u32 (d:Int))) g t (wcells (p.set j d)):=by
 have:=h.set j (.int .u32 (d:Int));have e:(wcells p).setIfInBounds j (.int .u32 (d:Int))=wcells (p.set j d):=by
  unfold wcells u32s;rw [List.setIfInBounds_toArray,← List.map_set]
 rwa [e] at this
theorem Blk.wat {w:World} {g base:Nat} {p:List Nat} {t:TypeId} (h:Blk w g t (wcells p)) (hp:Ws p) (hb:base≤g):Wat w (some ⟨g,0,none⟩) p.length p∧Fresh base w (some ⟨g,0,none⟩) p.length :=
 ⟨⟨rfl,hp,fun _=>⟨g,0,rfl,h.lt,fun j hj=>by rw [Nat.zero_add];exact h.word hj⟩⟩,fun _=>⟨g,0,rfl,hb,fun j _=>by rw [Nat.zero_add];exact h.frozen j⟩⟩
def MulO (w:World) (g:Nat) (a b:List Nat) (i:Nat) (p:List Nat) (wr:World):Prop :=
 OInv a b i p∧Blk wr g 59 (wcells p)∧Below w.heap.size w wr
def MulI (w:World) (g h:Nat) (p0:List Nat) (x:Nat) (b:List Nat) (i k:Nat) (p:List Nat) (c:Nat) (wr:World):Prop :=
 MInv p0 x b i k p c∧Blk wr g 59 (wcells p)∧Blk wr h 164 #[.int .u64 (c:Int)]∧Below w.heap.size w wr
theorem mulWords_any (A A':Option Addr) (n n' c c':Nat) (l l':List Nat) (w:World) (h:Wat w A n l) (h':Wat w A' n' l') (hm:n≤100000000000) (hm':n'≤100000000000) :
  Calls Tryz.prog 145 #[.slice A n c,.slice A' n' c'] w fun e w'=>∃ p,RetW w (n+n') p e w'∧val p=val l*val l':=by
 have hmk:=fun w=>run_make_u32 (n+n') (by omega) w;rw [show ((n+n':Nat):Int)=(n:Int)+(n':Int) by omega] at hmk;have hl:=h.1;have hl':=h'.1;have HL:=Hj hl;have HL':=Hj hl';clear hl hl';go_enter Tryz.func145,Tryz.ntmps145
 go_wp2_with fail
 have hstart:MulO w w.heap.size l l' 0 (List.replicate (n+n') 0) (w.alloc (.cells (wcells (List.replicate (n+n') 0)) 59)) :=
  ⟨by have:=OInv.start l l';rw [HL.out,HL'.out] at this;exact this,Blk.new _ _ _,(Below.refl _ _).alloc (Nat.le_refl _) _⟩
 generalize w.alloc (.cells (wcells (List.replicate (n+n') 0)) 59)=W0 at *;generalize List.replicate (n+n') 0=p0 at *
 go_loopw [19] (fun t wr=>∃ (i:Nat) (p:List Nat),i≤n∧t=.int .i64 i∧MulO w w.heap.size l l' i p wr) (fun t _=>n-(intOf t).toNat)
 case atStart=>exact ⟨0,p0,Nat.zero_le _,rfl,hstart⟩
 case round =>
  obtain ⟨i,p,hi,rfl,hO,hP,hB⟩:=hrel;clear hmk hstart;by_cases hlt:i<n
  ·have hW:=h.below hB;obtain ⟨b,o,rfl,hb,hcell⟩:=hW.2.2 (by omega);have hck:=hcell i hlt;have hx:=h.2.1.get i;clear hcell hW;generalize hxe:l[i]?.getD 0=x at *;have HX:=Hj hxe;clear hxe
   go_wp2_with fail
   refine (carrier_any 0 wr).mono ?_;rintro e w1 ⟨rfl,rfl⟩
   go_wp2_with fail
   have hst:MulI w w.heap.size wr.heap.size p x l' i 0 p 0 (wr.alloc (.cells #[.int .u64 0] 164)) :=
    ⟨MInv.start x l' i hO.ws,hP.alloc _,Blk.new _ _ _,hB.alloc hB.size _⟩
   have hne:w.heap.size<wr.heap.size:=hP.lt;have hO':=Hj hO;clear hO hP hB hck;generalize wr.alloc (.cells #[.int .u64 0] 164)=W1 at *;generalize hge:wr.heap.size=g at *;clear hge
   go_loopw [27] (fun t wr=>∃ (k:Nat) (q:List Nat) (cc:Nat),k≤n'∧t=.int .i64 k∧MulI w w.heap.size g p x l' i k q cc wr) (fun t _=>n'-(intOf t).toNat)
   case atStart=>exact ⟨0,p,0,Nat.zero_le _,rfl,hst⟩
   case round =>
    obtain ⟨k,q,cc,hk,rfl,hI,hP,hG,hB⟩:=hrel;clear hst;by_cases hlt2:k<n'
    ·have hW:=h'.below hB;obtain ⟨b',o',rfl,hb',hcell⟩:=hW.2.2 (by omega);have hck:=hcell k hlt2;have hy:=h'.2.1.get k;have hjl:i+k<q.length:=by rw [hI.len,hO'.out.len,HL.out,HL'.out];omega
     have hpc:=hP.word hjl;have hpl:=hI.ws.get (i+k);have hcl:=hI.cl;have hbd:=hI.bound hx h'.2.1;have hst:=hI.step hx h'.2.1 (k:=k) (by rw [HL'.out];exact hlt2) (by rw [← hI.len];exact hjl);generalize q[i+k]?.getD 0=v at *;generalize l'[k]?.getD 0=y at *;have hxy:(x:Int)*(y:Int)=((x*y:Nat):Int):=by omega
     have hmu:(x:Int)*(y:Int)≤18446744065119617025:=by
      have:x*y≤4294967295*4294967295:=Nat.mul_le_mul (by omega) (by omega);omega
     have hm0:(0:Int)≤(x:Int)*(y:Int):=by omega
     have HBD:=Hj hbd;have HXY:=Hj hxy;have HST:=Hj hst;have HMU:=Hj hmu;have hw1:IntKind.u64.wrap ((x:Int)*(y:Int))=(x:Int)*(y:Int):=by rw [IntKind.wrap_u64];omega
     have hw2:IntKind.u64.wrap ((v:Int)+(x:Int)*(y:Int))=(v:Int)+(x:Int)*(y:Int):=by rw [IntKind.wrap_u64];omega
     clear hcell hW hst hbd hxy hmu
     go_wp2_with fail
     have e1:((v:Int)+(x:Int)*(y:Int)+(cc:Int)) % 4294967296=(((v+x*y+cc) % 4294967296:Nat):Int):=by rw [HXY.out];omega
     have e2:((v:Int)+(x:Int)*(y:Int)+(cc:Int)) / 4294967296=(((v+x*y+cc) / 4294967296:Nat):Int):=by rw [HXY.out];omega
     refine (next_any g _ cc wr hG (by have:=HXY.out;omega) (by omega) (by have:=HXY.out;have:=HBD.out;omega)).mono ?_;rw [e1,e2];generalize (v+x*y+cc) % 4294967296=r at *;generalize (v+x*y+cc) / 4294967296=d at *;rintro e w1 ⟨rfl,rfl⟩;have hP1:=hP.far (p:=⟨g,0,none⟩) (by simp;omega) (.int .u64 (d:Int));have hG1:=hG.set 0 (.int .u64 (d:Int));have hB1:=hB.setCell (p:=⟨g,0,none⟩) (by simp;omega) (.int .u64 (d:Int));have hP2:=hP1.setWord (i+k) r;have hG2:=hG1.far (p:=⟨w.heap.size,i+k,none⟩) (by simp;omega) (.int .u32 (r:Int));have hB2:=hB1.setCell (p:=⟨w.heap.size,i+k,none⟩) (by simp) (.int .u32 (r:Int));have hc1:=hP1.word hjl;have hf1:=hP1.frozen (i+k);have hil:i+k<n+n':=by omega
     clear e1 e2 hP hG hB hP1 hG1 hB1 hI hck hpc hw1 hw2 HMU HXY hm0;generalize wr.setCell ⟨g,0,none⟩ (.int .u64 (d:Int))=w2 at *;go_wp2;go_roundw
     case rel=>exact ⟨k+1,_,d,by omega,by go_num,HST.out,hP2,hG2,hB2⟩
     case measure=>simp [intOf];omega
    ·obtain rfl:k=n':=by omega
     have hjl:i+k<q.length:=by rw [hI.len,hO'.out.len,HL.out,HL'.out];omega
     have hcl:=hI.cl;rw [← HL'.out] at hI;rw [← HX.out] at hI;have hst:=hO'.out.step (i:=i) (by rw [HL.out];exact hlt) hI;rw [HL'.out] at hst;have HST:=Hj hst;have hpc:=hP.word hjl;clear hI hst
     go_wp2_with fail
     refine (next_any g 0 cc wr hG (by omega) (by omega) (by omega)).mono ?_;rw [show ((0:Int)+(cc:Int)) % 4294967296=((cc:Nat):Int) by omega];generalize ((0:Int)+(cc:Int)) / 4294967296=d at *;rintro e w1 ⟨rfl,rfl⟩;have hP1:=hP.far (p:=⟨g,0,none⟩) (by simp;omega) (.int .u64 d);have hB1:=hB.setCell (p:=⟨g,0,none⟩) (by simp;omega) (.int .u64 d);have hP2:=hP1.setWord (i+k) cc;have hB2:=hB1.setCell (p:=⟨w.heap.size,i+k,none⟩) (by simp) (.int .u32 (cc:Int));have hc1:=hP1.word hjl;have hf1:=hP1.frozen (i+k);have hil:i+k<n+k:=by omega
     clear hP hG hB hP1 hB1 hpc;generalize wr.setCell ⟨g,0,none⟩ (.int .u64 d)=w2 at *;go_wp2;go_roundw
     case rel=>exact ⟨i+1,_,by omega,by go_num,HST.out,hP2,hB2⟩
     case measure=>simp [intOf];omega
  ·obtain rfl:i=n:=by omega
   have hlen:p.length=i+n':=by rw [hO.len,HL.out,HL'.out]
   have hw:=hP.wat hO.ws (Nat.le_refl w.heap.size);rw [hlen] at hw;have HV:Hid (∃ p,RetW w (i+n') p (.returned (.slice (some ⟨w.heap.size,0,none⟩) (i+n') (i+n'))) wr∧val p=val l*val l'):=⟨p,⟨_,_,rfl,Nat.le_refl _,by simp only [maxLen];omega,hw.1,hw.2,hB⟩,by rw [← HL.out] at hO;exact hO.done⟩;clear hlen hw hO hP hB;go_wp2;go_ret;exact HV.out
theorem sg_mul (a b:Bool) (m n:Nat):sg (a != b) (m*n)=sg a m*sg b n:=by
 unfold sg;cases a<;>cases b<;>simp [Int.mul_neg,Int.neg_mul]
theorem len_one {m:Nat} (h:(digs m).length≤1):m<4294967296:=by
 have:=digs_len_le.1 h;simpa using this
theorem small_int (neg:Bool) (z:Int) (w:World) (h0:0≤z) (hn:z<18446744073709551616) :
  Calls Tryz.prog 135 #[.bool neg,.int .u64 z] w (RetZ w (sg neg z.toNat)):=by
 obtain ⟨n,rfl⟩:=Int.eq_ofNat_of_zero_le h0;exact small_any neg n w (by omega)
theorem low_bel (A:Option Addr) (n c:Nat) (l:List Nat) (w:World) (h:Wat w A n l) (hn:n≤2) :
  Calls Tryz.prog 143 #[.slice A n c] w fun e w'=>e=.returned (.int .u64 (val l:Nat))∧Below w.heap.size w w' :=
 (low_any A n c l w h hn).mono fun _ _ ⟨he,k,hk⟩=>⟨he,by rw [hk];exact belowN _ _⟩
theorem mul_any (neg neg':Bool) (A A':Option Addr) (n n' c c':Nat) (l l':List Nat) (w:World) (h:Wat w A n l) (h':Wat w A' n' l') (hnc:n≤c) (hnc':n'≤c') (hm:n≤100000000000) (hm':n'≤100000000000) :
  Calls Tryz.prog 97 #[.agg #[.bool neg,.slice A n c],.agg #[.bool neg',.slice A' n' c']] w (RetZ w (sg neg (val l)*sg neg' (val l'))):=by
 rw [← sg_mul];go_enter Tryz.func97,Tryz.ntmps97
 go_wp2_with fail
 obtain ⟨hB0,hB1,hB2,hBW,hsz⟩:=pre3 w 40 #[.bool neg,.slice A n c] 40 #[.bool neg',.slice A' n' c'] 40 #[.bool false,.slice none 0 0];generalize ((w.alloc (.cells #[.bool neg,.slice A n c] 40)).alloc (.cells #[.bool neg',.slice A' n' c'] 40)).alloc (.cells #[.bool false,.slice none 0 0] 40)=W at *;have HSZ:=Hj hsz;clear hsz;have s4:=RS.start hB2;have hw:∀ w',RS (w.heap.size+1+1) 40 W w'→Wat w' A n l∧Wat w' A' n' l':=fun w' hk=>⟨h.below (hBW.trans (hk.1.mono (by omega))),h'.below (hBW.trans (hk.1.mono (by omega)))⟩;have HW:=Hj hw;have hle:=h.trim_le;have hle':=h'.trim_le;clear hw;have T1:=Hj (fun W1 (hb:RS (w.heap.size+1+1) 40 W W1)=>trim_any A n c l W1 (HW.out _ hb).1 hnc (by omega));have T2:=Hj (fun W1 (hb:RS (w.heap.size+1+1) 40 W W1)=>trim_any A' n' c' l' W1 (HW.out _ hb).2 hnc' (by omega));obtain ⟨c0,c1,-,-⟩:=hB0.two;obtain ⟨c2,c3,-,-⟩:=hB1.two
 go_quiet ((first|(go_at_call_of 141 (Value.slice A n c);exact quiet_left (T1.out _ (s4.drewN _)))|(go_at_call_of 141 (Value.slice A' n' c');exact quiet_left (T2.out _ (s4.drewN _)))))
 have s5:=s4.drewN nq;clear T1 T2 s4 c0 c1 c2 c3;have hT:=fun W1 (hb:RS (w.heap.size+1+1) 40 W W1)=>(HW.out _ hb).1.trim;have hT':=fun W1 (hb:RS (w.heap.size+1+1) 40 W W1)=>(HW.out _ hb).2.trim;have HT:=Hj hT;have HT':=Hj hT';have hv1:=@len_one (val l);have hv2:=@len_one (val l');clear hT hT' HW;have hvd:=val_digs (val l);have hvd':=val_digs (val l');have HVD:=Hj hvd;have HVD':=Hj hvd';clear hvd hvd';generalize val l=m at *;generalize val l'=m' at *;by_cases hb:(digs m).length≤1∧(digs m').length≤1
 ·obtain ⟨hb1,hb2⟩:=hb;have hv1:=hv1 hb1;have hv2:=hv2 hb2;generalize digs m=D at *;generalize digs m'=D' at *;generalize D.length=k at *;generalize D'.length=k' at *;have hp:m*m'<18446744073709551616:=by
   have:m*m'≤4294967295*4294967295:=Nat.mul_le_mul (by omega) (by omega);omega
  have hmm:(m:Int)*(m':Int)=((m*m':Nat):Int):=by omega
  have hw1:IntKind.u64.wrap ((m:Int)*(m':Int))=(m:Int)*(m':Int):=by
   rw [IntKind.wrap_u64,hmm];omega
  have HMM:=Hj hmm;have HP:=Hj hp;clear hmm hp hv1 hv2
  go_wp2_with fail
  have hS:∀ w',RS (w.heap.size+1+1) 40 W w'→(w'.cell? ⟨w.heap.size,0,none⟩=some (.bool neg)∧w'.cell? ⟨w.heap.size,1,none⟩=some (.slice A n c)∧w'.cell? ⟨w.heap.size+1,0,none⟩=some (.bool neg')∧w'.cell? ⟨w.heap.size+1,1,none⟩=some (.slice A' n' c'))∧RS (w.heap.size+1+1) 40 W w':=fun w' hk=>⟨⟨(hk.blk hB0 (by omega)).cell 0,(hk.blk hB0 (by omega)).cell 1,(hk.blk hB1 (by omega)).cell 0,(hk.blk hB1 (by omega)).cell 1⟩,hk⟩;have HS:=Hj hS;clear hS;clear hB2
  go_region_held3 (fun w'=>(w'.cell? ⟨w.heap.size,0,none⟩=some (.bool neg)∧w'.cell? ⟨w.heap.size,1,none⟩=some (.slice A n c)∧w'.cell? ⟨w.heap.size+1,0,none⟩=some (.bool neg')∧w'.cell? ⟨w.heap.size+1,1,none⟩=some (.slice A' n' c'))∧RS (w.heap.size+1+1) 40 W w')
   (with_reducible first|(refine HS.out _ ?_;assumption)|(refine HS.out _ (RS.drew ?_);assumption)|(refine' HS.out _ (RS.drew (And.right ?_));rotate_left;assumption)|(refine' HS.out _ (RS.set (And.right ?_) _ _);rotate_left;assumption))
   (first
    | (go_at_call_of 143 (Value.slice A k c);have hk:=And.right ‹_∧RS (w.heap.size+1+1) 40 W _›;refine (low_bel A _ c _ _ (HT.out _ hk) (by omega)).mono ?_;rw [HVD.out];rintro e w1 ⟨rfl,hb1⟩;have hr1:=hk.call hb1)
    | (go_at_call_of 143 (Value.slice A' k' c');have hk:=And.right ‹_∧RS (w.heap.size+1+1) 40 W _›;refine (low_bel A' _ c' _ _ (HT'.out _ hk) (by omega)).mono ?_;rw [HVD'.out];rintro e w2 ⟨rfl,hb2⟩;have hr2:=hk.call hb2)
    | (go_at_call 135;have hk:=And.right ‹_∧RS (w.heap.size+1+1) 40 W _›;refine (small_int (neg != neg') _ _ (by rw [HMM.out];omega) (by rw [HMM.out];have:=HP.out;omega)).mono ?_;rw [HMM.out,Int.toNat_natCast];rintro e w3 ⟨A3,k3,c3,rfl,hk3,hW3,hF3,hb3⟩;have hz3:=hk.1.size;have hr3:=hk.call hb3;obtain ⟨_,_,c0,c1,f0,f1⟩:=hr3.two))
  have hfin:=retZ_close hBW (by omega) (by have:=HSZ.out;omega) hr3 hk3 hW3 hF3;obtain ⟨d0,d1,-,-⟩:=(hr3.done (.bool (decide (sg (neg != neg') (m*m')<0))) (.slice A3 k3 c3)).two;have HF:=Hj hfin;clear hfin;go_wp2;refine bodyPost_ret (v:=.agg #[.bool (decide (sg (neg != neg') (m*m')<0)),.slice A3 k3 c3]) ?_ rfl HF.out;simp [results,Tryz.results97,go_sem,d0,d1]
 ·have hb':¬ ((digs m).length≤1)∨((digs m).length≤1∧¬ ((digs m').length≤1)):=by omega
  clear hb hv1 hv2;have hmu:=fun W1 (hb:RS (w.heap.size+1+1) 40 W W1)=>mulWords_any A A' _ _ c c' _ _ W1 (HT.out _ hb) (HT'.out _ hb) (by omega) (by omega);rw [HVD.out,HVD'.out] at hmu;have HMU:=Hj hmu;clear hmu;generalize digs m=D at *;generalize digs m'=D' at *;generalize D.length=k at *;generalize D'.length=k' at *;rcases hb' with hb1|⟨hb1,hb2⟩
  all_goals
   go_wp2_with fail
   have hS:∀ w',RS (w.heap.size+1+1) 40 W w'→(w'.cell? ⟨w.heap.size,0,none⟩=some (.bool neg)∧w'.cell? ⟨w.heap.size,1,none⟩=some (.slice A n c)∧w'.cell? ⟨w.heap.size+1,0,none⟩=some (.bool neg')∧w'.cell? ⟨w.heap.size+1,1,none⟩=some (.slice A' n' c'))∧RS (w.heap.size+1+1) 40 W w':=fun w' hk=>⟨⟨(hk.blk hB0 (by omega)).cell 0,(hk.blk hB0 (by omega)).cell 1,(hk.blk hB1 (by omega)).cell 0,(hk.blk hB1 (by omega)).cell 1⟩,hk⟩;have HS:=Hj hS;clear hS;clear hB2
   go_region_held3 (fun w'=>(w'.cell? ⟨w.heap.size,0,none⟩=some (.bool neg)∧w'.cell? ⟨w.heap.size,1,none⟩=some (.slice A n c)∧w'.cell? ⟨w.heap.size+1,0,none⟩=some (.bool neg')∧w'.cell? ⟨w.heap.size+1,1,none⟩=some (.slice A' n' c'))∧RS (w.heap.size+1+1) 40 W w')
    (with_reducible first|(refine HS.out _ ?_;assumption)|(refine HS.out _ (RS.drew ?_);assumption)|(refine' HS.out _ (RS.drew (And.right ?_));rotate_left;assumption)|(refine' HS.out _ (RS.set (And.right ?_) _ _);rotate_left;assumption))
    (first
     | (go_at_call 145;have hk:=And.right ‹_∧RS (w.heap.size+1+1) 40 W _›;refine (HMU.out _ hk).mono ?_;rintro e w1 ⟨p1,⟨A1,c1,rfl,hk1,hcm1,hW1,hF1,hb1⟩,hp1⟩;have hz1:=hk.1.size;have hr1:=hk.call hb1;have HP:=Hj hp1;clear hp1)
     | (go_at_call 144;have hk:=And.right ‹_∧RS (w.heap.size+1+1) 40 W _›;refine (build_any (neg != neg') A1 _ c1 _ _ hW1 hk1 (by omega)).mono ?_;intro e w2 hr;have hr:=RetZ.of_in hb1 hW1 hF1 hk1 hr;rw [HP.out] at hr;obtain ⟨A2,k2,c2,rfl,hk2,hW2,hF2,hb2⟩:=hr;have hr2:=RS.call ‹RS _ _ W (World.drew _)› hb2;obtain ⟨_,_,c0,c1,f0,f1⟩:=hr2.two))
   have hfin:=retZ_close hBW (by omega) (by have:=HSZ.out;omega) hr2 hk2 hW2 hF2;obtain ⟨d0,d1,-,-⟩:=(hr2.done (.bool (decide (sg (neg != neg') (m*m')<0))) (.slice A2 k2 c2)).two;have HF:=Hj hfin;clear hfin hr;go_wp2;refine bodyPost_ret (v:=.agg #[.bool (decide (sg (neg != neg') (m*m')<0)),.slice A2 k2 c2]) ?_ rfl HF.out;simp [results,Tryz.results97,go_sem,d0,d1]
def RetDiv (w:World) (x y:Nat) (e:Ending) (w':World):Prop :=
 ∃ A1 n1 c1 q A2 n2 c2 r,e=.returned (.tuple #[.slice A1 n1 c1,.slice A2 n2 c2])∧n1≤c1∧n2≤c2∧n1≤100000000000∧n2≤100000000000∧Wat w' A1 n1 q∧Wat w' A2 n2 r ∧
  Fresh w.heap.size w' A1 n1∧Fresh w.heap.size w' A2 n2∧val q=x / y∧val r=x % y∧Below w.heap.size w w'
def DivW (M:Nat):Prop:=∀ (A A':Option Addr) (n n' c c' x y:Nat) (w:World),Wat w A n (digs x)→Wat w A' n' (digs y)→x<M→y≠0→n≤10000000000→n'≤10000000000 →
 Calls Tryz.prog 200 #[.slice A n c,.slice A' n' c'] w (RetDiv w x y)
theorem compareWords_bel (A A':Option Addr) (n n' c c':Nat) (x y:Nat) (w:World) (h:Wat w A n (digs x)) (h':Wat w A' n' (digs y)) (hm:n≤9223372036854775807) (hm':n'≤9223372036854775807) :
  Calls Tryz.prog 142 #[.slice A n c,.slice A' n' c'] w fun e w'=>e=.returned (.int .i64 (cmpI x y))∧Below w.heap.size w w' :=
 (compareWords_any A A' n n' c c' x y w h h' hm hm').mono fun _ _ ⟨he,k,hk⟩=>⟨he,by rw [hk];exact belowN _ _⟩
theorem field_zw (a b:Value) (w:World):(Instr.field 40 (.agg #[a,b]) 1).run Tryz.prog w=.ok b w:=by kernel_rfl
theorem divWords_less (A A':Option Addr) (n n' c c' x y:Nat) (w:World) (h:Wat w A n (digs x)) (h':Wat w A' n' (digs y)) (hxy:x<y) (hn:n≤10000000000) (hn':n'≤10000000000) :
  Calls Tryz.prog 200 #[.slice A n c,.slice A' n' c'] w (RetDiv w x y):=by
 have hc:cmpI x y = -1:=cmpI_lt (by omega);have T:=compareWords_bel A A' n n' c c' x y w h h' (by omega) (by omega);rw [hc] at T;have T:=Hj T;have hq:x / y=0:=Nat.div_eq_of_lt hxy;have hr:x % y=x:=Nat.mod_eq_of_lt hxy;have HQ:=Hj hq;have HR:=Hj hr;clear hc hq hr hxy;go_enter Tryz.func200,Tryz.ntmps200
 go_wp2_with fail
 refine (T.out).mono ?_;rintro e w1 ⟨rfl,hb1⟩
 go_wp2_with fail
 refine (clone_any A n c (digs x) w1 (h.below hb1) (by omega)).mono ?_;rintro e w2 ⟨A2,c2,rfl,hk2,hcm2,hW2,hF2,hb2⟩;go_wp2;go_ret2;exact ⟨none,0,0,[],A2,n,c2,digs x,rfl,Nat.le_refl _,hk2,by omega,by omega,Wat.nil,hW2,Fresh.nil,hF2.mono hb1.size,by rw [HQ.out];rfl,by rw [HR.out,val_digs],hb1.trans (hb2.mono hb1.size)⟩
theorem divWords_two (A A':Option Addr) (n n' c c' x y:Nat) (w:World) (h:Wat w A n (digs x)) (h':Wat w A' n' (digs y)) (hxy:y≤x) (hx:x<18446744073709551616) (hy:y≠0) (hn:n≤10000000000) (hn':n'≤10000000000) :
  Calls Tryz.prog 200 #[.slice A n c,.slice A' n' c'] w (RetDiv w x y):=by
 have hc:0≤cmpI x y:=by
  rcases Nat.lt_or_ge y x with h1|h1
  ·rw [cmpI_gt (by omega)];decide
  ·rw [cmpI_eq (by omega)];decide
 have T:=compareWords_bel A A' n n' c c' x y w h h' (by omega) (by omega);generalize cmpI x y=cc at *;have T:=Hj T;have hl2:n≤2:=by rw [← h.1];exact len_le_two hx
 have hl2':n'≤2:=by rw [← h'.1];exact len_le_two (by omega)
 have hq:IntKind.u64.wrap ((x:Int).tdiv (y:Int))=((x / y:Nat):Int):=by
  rw [IntWalk.u64_quo _ _ ⟨by omega,by omega,by omega⟩];omega
 have hr:(x:Int).tmod (y:Int)=((x % y:Nat):Int):=by rw [IntWalk.rem_in _ _ (by omega)];omega
 have hq':IntKind.u64.wrap ((x:Int) / (y:Int))=((x / y:Nat):Int):=by
  have e:(x:Int) / (y:Int)=((x / y:Nat):Int):=by omega
  have:=Nat.lt_of_le_of_lt (Nat.div_le_self x y) hx;rw [e,IntKind.wrap_u64];generalize x / y=q at *;clear hq;omega
 have hr':(x:Int) % (y:Int)=((x % y:Nat):Int):=by omega
 have hy0:((y:Int) == 0)=false:=by simp;exact hy
 have hqb:x / y<18446744073709551616:=Nat.lt_of_le_of_lt (Nat.div_le_self _ _) hx;have hrb:x % y<18446744073709551616:=Nat.lt_of_le_of_lt (Nat.mod_le _ _) hx;have HQB:=Hj hqb;have HRB:=Hj hrb;have HV1:=Hj (val_digs x);have HV2:=Hj (val_digs y);clear hqb hrb hxy hx;have hfld:=field_zw;generalize hqe:x / y=q at *;generalize hre:x % y=r at *;have HQE:=Hj hqe;have HRE:=Hj hre;clear hqe hre;go_enter Tryz.func200,Tryz.ntmps200
 go_wp2_with fail
 refine (T.out).mono ?_;rintro e w1 ⟨rfl,hb1⟩
 go_wp2_with fail
 refine (low_bel A n c _ w1 (h.below hb1) hl2).mono ?_;rw [HV1.out];rintro e w2 ⟨rfl,hb2⟩
 go_wp2_with fail
 have hb12:=hb1.trans (hb2.mono hb1.size);refine (low_bel A' n' c' _ w2 (h'.below hb12) hl2').mono ?_;rw [HV2.out];rintro e W ⟨rfl,hb3⟩;have hbW:Below w.heap.size w W:=hb12.trans (hb3.mono hb12.size);clear hb1 hb2 hb12 hb3 T
 go_wp2_with fail
 have s4:=Kp.refl W;have hS:∀ w',Kp W w'→(True)∧Kp W w':=fun w' hk=>⟨⟨⟩,hk⟩;have HS:=Hj hS;clear hS
 go_region_held3 (fun w'=>(True)∧Kp W w')
  (with_reducible first|(refine HS.out _ ?_;assumption)|(refine HS.out _ (Kp.drew ?_);assumption)|(refine' HS.out _ (Kp.drew (And.right ?_));rotate_left;assumption))
  (first
   | (go_at_call_of 135 (Value.int .u64 (q:Int));have hk:=And.right ‹_∧Kp W _›;refine (small_any false q _ HQB.out).mono ?_;rintro e w3 ⟨A3,k3,c3,rfl,hk3,hW3,hF3,hb3⟩;have hz3:=Below.size hk;have hr3:=hk.trans hb3)
   | (go_at_call_of 135 (Value.int .u64 (r:Int));have hk:=And.right ‹_∧Kp W _›;refine (small_any false r _ HRB.out).mono ?_;rintro e w4 ⟨A4,k4,c4,rfl,hk4,hW4,hF4,hb4⟩;have hz4:=Below.size hk;have hr4:=hk.trans hb4))
 have h3:=hW3.1;have h4:=hW4.1;rw [sg_natAbs] at hW3 hW4 h3 h4;have b3:k3≤2:=by rw [← h3];exact len_le_two HQB.out
 have b4:k4≤2:=by rw [← h4];exact len_le_two HRB.out
 have hz5:=HS;have hfin:RetDiv w x y (.returned (.tuple #[.slice A3 k3 c3,.slice A4 k4 c4])) w4 :=
  ⟨A3,k3,c3,_,A4,k4,c4,_,rfl,hk3,hk4,by omega,by omega,hW3.below hb4,hW4,(hF3.keep hW3 hb4).mono hbW.size,hF4.mono (Nat.le_trans hbW.size hz4),by rw [val_digs,HQE.out],by rw [val_digs,HRE.out],hbW.trans (Below.mono hr4 hbW.size)⟩
 have HF:=Hj hfin;clear hfin h3 h4 hz5;go_wp2;go_ret2;exact HF.out
theorem divW_small:DivW 18446744073709551616:=by
 intro A A' n n' c c' x y w h h' hx hy hn hn';rcases Nat.lt_or_ge x y with hlt|hge
 ·exact divWords_less A A' n n' c c' x y w h h' hlt hn hn'
 ·exact divWords_two A A' n n' c c' x y w h h' hge hx hy hn hn'
def readW (w:World):Value→Nat
 | .slice (some a) n _=>val ((List.range n).map fun j=>match w.cell? ⟨a.block,a.off+j,none⟩ with|some (.int _ z)=>z.toNat|_=>0)
 | _=>0
theorem Wat.read {w:World} {A:Option Addr} {n:Nat} {l:List Nat} (h:Wat w A n l) (c:Nat):readW w (.slice A n c)=val l:=by
 rcases Nat.eq_zero_or_pos n with h0|h0
 ·subst h0;obtain rfl:l=[]:=List.eq_nil_of_length_eq_zero h.1;cases A<;>rfl
 ·obtain ⟨b,o,rfl,hb,hc⟩:=h.2.2 (by omega);show val _=val l
  congr 1
  apply List.ext_getElem
  ·simp [h.1]
  ·intro j h1 h2;simp only [List.getElem_map,List.getElem_range];have hj:j<n:=by simpa using h1
   rw [hc j hj,List.getElem?_eq_getElem h2]
   rfl
def GcdL (w W:World) (M x y:Nat) (t5 t6:Value) (wr:World):Prop :=
 ∃ A n c X A' n' c' Y,t5=.slice A n c∧t6=.slice A' n' c'∧n≤c∧n'≤c'∧n≤10000000000∧n'≤10000000000∧Wat wr A n (digs X)∧Wat wr A' n' (digs Y)∧X<M∧Y<M∧Nat.gcd X Y=Nat.gcd x y∧RS (w.heap.size+1+1) 40 W wr
theorem gcd_any (M:Nat) (hM:∀ x,x<M→(digs x).length≤10000000000) (HD:DivW M) (neg neg':Bool) (A A':Option Addr) (n n' c c':Nat) (l l':List Nat) (w:World) (h:Wat w A n l) (h':Wat w A' n' l') (hnc:n≤c) (hnc':n'≤c') (hm:n≤10000000000) (hm':n'≤10000000000)
  (hx:val l<M) (hy:val l'<M) :
  Calls Tryz.prog 152 #[.agg #[.bool neg,.slice A n c],.agg #[.bool neg',.slice A' n' c']] w (RetZ w (Nat.gcd (val l) (val l'):Nat)):=by
 have HMM:=Hj hM;have HXM:=Hj hx;have HYM:=Hj hy;clear hM hx hy;go_enter Tryz.func152,Tryz.ntmps152
 go_wp2_with fail
 obtain ⟨hB0,hB1,hB2,hBW,hsz⟩:=pre3 w 40 #[.bool neg,.slice A n c] 40 #[.bool neg',.slice A' n' c'] 40 #[.bool false,.slice none 0 0];generalize ((w.alloc (.cells #[.bool neg,.slice A n c] 40)).alloc (.cells #[.bool neg',.slice A' n' c'] 40)).alloc (.cells #[.bool false,.slice none 0 0] 40)=W at *;have HSZ:=Hj hsz;clear hsz;have s4:=RS.start hB2;have hw:∀ w',RS (w.heap.size+1+1) 40 W w'→Wat w' A n l∧Wat w' A' n' l':=fun w' hk=>⟨h.below (hBW.trans (hk.1.mono (by omega))),h'.below (hBW.trans (hk.1.mono (by omega)))⟩;have HW:=Hj hw;have hle:=h.trim_le;have hle':=h'.trim_le;clear hw;have T1:=Hj (fun W1 (hb:RS (w.heap.size+1+1) 40 W W1)=>trim_any A n c l W1 (HW.out _ hb).1 hnc (by omega));have T2:=Hj (fun W1 (hb:RS (w.heap.size+1+1) 40 W W1)=>trim_any A' n' c' l' W1 (HW.out _ hb).2 hnc' (by omega));obtain ⟨c0,c1,-,-⟩:=hB0.two;obtain ⟨c2,c3,-,-⟩:=hB1.two
 go_quiet ((first|(go_at_call_of 141 (Value.slice A n c);exact quiet_left (T1.out _ (s4.drewN _)))|(go_at_call_of 141 (Value.slice A' n' c');exact quiet_left (T2.out _ (s4.drewN _)))))
 have s5:=s4.drewN nq;clear T1 T2 s4 c0 c1 c2 c3 hB0 hB1 hB2;have hst:GcdL w W M (val l) (val l') (.slice A (digs (val l)).length c) (.slice A' (digs (val l')).length c') (W.drewN nq) :=
  ⟨A,_,c,val l,A',_,c',val l',rfl,rfl,by omega,by omega,by omega,by omega,(HW.out _ s5).1.trim,(HW.out _ s5).2.trim,HXM.out,HYM.out,rfl,s5⟩
 clear s5 HXM HYM HW hle hle';generalize W.drewN nq=W1 at *
 go_wp2_with fail
 go_loopw [5,6] (fun t5 t6 wr=>GcdL w W M (val l) (val l') t5 t6 wr) (fun _ t6 wr=>readW wr t6)
 case atStart=>exact hst
 case round =>
  obtain ⟨B,m,d,X,B',m',d',Y,rfl,rfl,hmd,hmd',hm1,hm2,hWX,hWY,hXM,hYM,hg,hRS⟩:=hrel;have HXM:=Hj hXM;have HYM:=Hj hYM;have HG:=Hj hg;clear hst hXM hYM hg;by_cases hy0:Y=0
  ·subst hy0;have hm0:m'=0:=by have:=hWY.1;rw [digs_zero] at this;exact this.symm
   subst hm0;have hX:X=Nat.gcd (val l) (val l'):=by rw [← HG.out,Nat.gcd_zero_right]
   subst hX;clear HG HYM;generalize Nat.gcd (val l) (val l')=gg at *
   go_wp2_with fail
   refine (clone_any B m d (digs gg) wr hWX (by omega)).mono ?_;rintro e w2 ⟨A2,c2,rfl,hk2,hcm2,hW2,hF2,hb2⟩
   go_wp2_with fail
   refine (build_any false A2 m c2 (digs gg) w2 hW2 hk2 (by omega)).mono ?_;intro e w5 hr;have hr:=RetZ.of_in hb2 hW2 hF2 hk2 hr;rw [val_digs,show sg false gg=((gg:Nat):Int) from rfl] at hr;obtain ⟨A5,k5,c5,rfl,hk5,hW5,hF5,hb5⟩:=hr;have hz5:=hRS.1.size;have hr5:=hRS.call hb5;obtain ⟨_,_,c0,c1,f0,f1⟩:=hr5.two;have hfin:=retZ_close hBW (by omega) (by have:=HSZ.out;omega) hr5 hk5 hW5 hF5;obtain ⟨d0,d1,-,-⟩:=(hr5.done (.bool (decide (((gg:Nat):Int)<0))) (.slice A5 k5 c5)).two;have HF:=Hj hfin;clear hfin hr;go_wp2;refine bodyPost_ret (v:=.agg #[.bool (decide (((gg:Nat):Int)<0)),.slice A5 k5 c5]) ?_ rfl HF.out;simp [results,Tryz.results152,go_sem,d0,d1]
  ·have hm0:0<m':=by
    have:=hWY.1;rcases Nat.eq_zero_or_pos m' with h0|h0
    ·subst h0;exact absurd (digs_nil (List.eq_nil_of_length_eq_zero this)) hy0
    ·exact h0
   by_cases hbig:2<m∨2<m'
   ·have hb':2<m∨(¬ 2<m∧2<m'):=by omega
    clear hbig;rcases hb' with hb1|⟨hb1,hb2⟩
    all_goals
     go_wp2_with fail
     refine (HD B B' m m' d d' X Y wr hWX hWY HXM.out hy0 hm1 hm2).mono ?_;rintro e w2 ⟨A1,n1,c1,q,A2,n2,c2,r,rfl,hn1,hn2,hl1,hl2,hW1,hW2,hF1,hF2,hq,hr,hb⟩;have HR:=Hj hr;have HQ:=Hj hq;clear hr hq
     go_wp2_with fail
     refine (trim_any A2 n2 c2 r w2 hW2 hn2 (by omega)).mono ?_;rw [HR.out];rintro e w' ⟨rfl,rfl⟩;have hT:=hW2.trim;rw [HR.out] at hT;have hlt:X % Y<Y:=Nat.mod_lt _ (by omega);have hrel:GcdL w W M (val l) (val l') (.slice B' m' d') (.slice A2 (digs (X % Y)).length c2) w2 :=
      ⟨B',m',d',Y,A2,_,c2,X % Y,rfl,rfl,hmd',Nat.le_trans (by have:=hW2.trim_le;rwa [HR.out] at this) hn2,hm2,HMM.out _ (Nat.lt_trans hlt HYM.out),hWY.below hb,hT,HYM.out,Nat.lt_trans hlt HYM.out,by rw [← HG.out,Nat.gcd_comm Y,← Nat.gcd_rec,Nat.gcd_comm],hRS.call hb⟩
     have hms:readW w2 (.slice A2 (digs (X % Y)).length c2)<readW wr (.slice B' m' d'):=by
      rw [hT.read,hWY.read,val_digs,val_digs];exact hlt
     have HREL:=Hj hrel;have HMS:=Hj hms;clear hrel hms hT hlt;go_wp2;exact ⟨HREL.out,HMS.out⟩
   ·have hs1:m≤2:=by omega
    have hs2:m'≤2:=by omega
    clear hbig;have hX2:X<18446744073709551616:=by
     have:=digs_len_le.1 (Nat.le_of_eq hWX.1);have:=(@digs_len_le X 2).1 (by rw [hWX.1];exact hs1);rwa [pow2] at this
    have hY2:Y<18446744073709551616:=by
     have:=(@digs_len_le Y 2).1 (by rw [hWY.1];exact hs2);rwa [pow2] at this
    have HX2:=Hj hX2;have HY2:=Hj hY2;clear hX2 hY2
    go_wp2_with fail
    refine (low_bel B m d _ wr hWX hs1).mono ?_;rw [val_digs];rintro e w2 ⟨rfl,hb2⟩
    go_wp2_with fail
    refine (low_bel B' m' d' _ w2 (hWY.below hb2) hs2).mono ?_;rw [val_digs];rintro e w3 ⟨rfl,hb3⟩;have hRS3:=(hRS.call hb2).call hb3;clear hWX hWY hb2 hb3 hRS
    go_wp2_with fail
    go_loopw [9,10] (fun t9 t10 ws=>∃ a b k:Nat,t9=.int .u64 a∧t10=.int .u64 b∧Hid (Nat.gcd a b=Nat.gcd (val l) (val l')∧a<18446744073709551616∧b<18446744073709551616)∧ws=w3.drewN k) (fun _ t10 _=>(intOf t10).toNat)
    case atStart=>exact ⟨X,Y,0,rfl,rfl,⟨HG.out,HX2.out,HY2.out⟩,rfl⟩
    case round =>
     obtain ⟨a,b,k,rfl,rfl,hab,rfl⟩:=hrel;by_cases hb0:b=0
     ·subst hb0;have ha:a=Nat.gcd (val l) (val l'):=by rw [← hab.out.1,Nat.gcd_zero_right]
      have HA2:=Hj hab.out.2.1;subst ha;clear hab;generalize Nat.gcd (val l) (val l')=gg at *;have hRS4:=hRS3.drewN k
      go_wp2_with fail
      refine (small_any false gg _ HA2.out).mono ?_;have hsg:sg false gg=((gg:Nat):Int):=rfl;rw [hsg];rintro e w5 ⟨A5,k5,c5,rfl,hk5,hW5,hF5,hb5⟩;have hz5:=hRS4.1.size;have hr5:=hRS4.call hb5;obtain ⟨_,_,c0,c1,f0,f1⟩:=hr5.two;have HSG:=Hj hsg;clear hsg HA2 hRS3 hRS4 hb5;have hfin:=retZ_close hBW (by omega) (by have:=HSZ.out;omega) hr5 hk5 hW5 hF5;obtain ⟨d0,d1,-,-⟩:=(hr5.done (.bool (decide (((gg:Nat):Int)<0))) (.slice A5 k5 c5)).two;have HF:=Hj hfin;clear hfin;go_wp2;refine bodyPost_ret (v:=.agg #[.bool (decide (((gg:Nat):Int)<0)),.slice A5 k5 c5]) ?_ rfl HF.out;simp [results,Tryz.results152,go_sem,d0,d1]
     ·have hr1:(a:Int).tmod (b:Int)=((a % b:Nat):Int):=by rw [IntWalk.rem_in _ _ (by omega)];omega
      have hr2:(a:Int) % (b:Int)=((a % b:Nat):Int):=by omega
      have hbz:((b:Int) == 0)=false:=by simp;exact hb0
      have hlt:a % b<b:=Nat.mod_lt _ (by omega);have hnew:Hid (Nat.gcd b (a % b)=Nat.gcd (val l) (val l')∧b<18446744073709551616∧a % b<18446744073709551616) :=
       ⟨by rw [← hab.out.1,Nat.gcd_comm b,← Nat.gcd_rec,Nat.gcd_comm],hab.out.2.2,Nat.lt_trans hlt hab.out.2.2⟩
      have hbp:(0:Int)<(b:Int):=by omega
      clear hab;generalize a % b=rr at *
      go_wp2_with fail
      go_quiet (fail)
      go_wp2;exact ⟨⟨b,rr,_,rfl,rfl,hnew,World.drewN_drewN _ _ _⟩,by simp [intOf];omega⟩
end Go.Proofs.YtjajigkacccdgaaGreat
