/-
Lemmas of the walk; no further conditions.
-/
import Derived.Test.YtjajigkacccdgaaGreatRows
import Derived.WalkKit
import Derived.ProofKit
import Derived.OpenShut
import Derived.Carry
import Derived.WideKeyArgs
import Derived.Deep.Slices
import Derived.Test.YtjajigkacccdgaaGreatThBH
import Derived.ArgAppend
set_option linter.unusedVariables false
set_option linter.unusedSimpArgs false
set_option maxRecDepth 100000
set_option maxHeartbeats 16000000
namespace Go.Proofs.YtjajigkacccdgaaGreat
open Go.ChangeShapes Go.WideShapes Go.ChangeAt Go.RowKit Go.Deep
open Wd
theorem own:ownKnob Tryz.prog.godebug=none:=by kernel_rfl
theorem laidOut:laidOutB Tryz.prog=true:=by kernel_rfl
section
variable {H:Type} {enc:TypeId×Value→H} {W:World}
end
section
variable {H:Type} {enc:TypeId×Value→H} {P:Program} {W:World}
theorem args_stay (hlo:laidOutB P=true) {W':World} (hb:Below W.heap.size W W') (sp:Nat→Bool):∀ {ts:List TypeId} {vs:List Value} {ds:List (DataW H)} {ps:List MemPlace},
  (∀ t∈ts,P.readableRec t=true∧t<P.types.size)→DataW.TrodAll enc P W 0 (fun _=>true) true ts vs ds ps→(∀ p∈ps,p.block<W.heap.size)→(∀ p∈ps,sp p.block=true) →
  DataW.TrodAll enc P W' 0 sp true ts vs ds ps
 | [],_,_,_,_,h,_,_=>by obtain ⟨rfl,rfl,rfl⟩:=trodAll_nil h;exact trodAll_mk0
 | t :: ts,_,_,_,hr,h,hlt,hs=>by
  obtain ⟨v,vs',d,ds',p,q,rfl,rfl,rfl,h1,h2⟩:=trodAll_cons h;have hr1:=hr t (List.mem_cons_self ..);exact trodAll_cons_mk (WideElems.Trod_stays hlo hr1.1 hr1.2 h1 (fun x hx=>hb.same (hlt x (List.mem_append_left _ hx))) (fun x hx=>hs x (List.mem_append_left _ hx)))
   (args_stay hlo hb sp (fun y hy=>hr y (List.mem_cons_of_mem _ hy)) h2 (fun x hx=>hlt x (List.mem_append_right _ hx)) (fun x hx=>hs x (List.mem_append_right _ hx)))
theorem post_true (hlo:laidOutB P=true) {f:Func} {s:ChangeSpec} {W':World} {args:Array Value} {ds:List (DataW H)} {before:List MemPlace} {tb:TypeId} (hbool:P.underlying tb=some .bool) (hv:s.vars=[]) (hr1:f.resultTypes=#[tb])
  (hr:∀ t∈f.params.toList,P.readableRec t=true∧t<P.types.size)
  (hW:DataW.Whole enc P f.params.toList s.vars false W args.toList ds [] before) (hres:(s.fn H (ds ++ [])).results=[.lit (.bool true)]) (hargs:(s.fn H (ds ++ [])).args=ds) (hvars:(s.fn H (ds ++ [])).vars=[]) (hb:Below W.heap.size W W') :
  s.post enc P f false true false false W args (.bool true) W':=by
 have hW':=hW;obtain ⟨p,q,hA,hV,rfl,hz,hn⟩:=hW;rw [hv] at hV;obtain ⟨_,rfl⟩:=trodVars_none hV;have hlt:∀ x∈p ++ [],x.block<W.heap.size:=fun x hx=>hW'.lt x hx;have hlt':∀ x∈p,x.block<W.heap.size:=fun x hx=>hlt x (by simpa using hx);have hold:∀ x∈p,(fun b=>decide (b<W.heap.size)) x.block=true:=fun x hx=>by simpa using hlt' x hx
 have hRes:∀ (b:Nat) (sp:Nat→Bool) (hd:Bool),DataW.TrodAll enc P W' b sp hd f.resultTypes.toList ((Value.bool true).resultList f.resultTypes.size) (s.fn H (ds ++ [])).results []:=fun b sp hd=>by
  rw [hres,hr1];exact trodAll_cons_mk (shut_bool hbool true) trodAll_mk0
 have hArg:∀ sp:Nat→Bool,(∀ x∈p,sp x.block=true)→DataW.TrodAll enc P W' 0 sp true f.params.toList args.toList (s.fn H (ds ++ [])).args p:=fun sp hsp=>by
  rw [hargs];exact args_stay hlo hb sp hr hA hlt' hsp
 have hVar:∀ sp:Nat→Bool,DataW.TrodVars enc P W' sp s.vars (s.fn H (ds ++ [])).vars []:=fun sp=>by
  rw [hv,hvars];rfl
 refine ⟨ds,[],p ++ [],[],p,[],hW',hRes _ _ _,hArg _ (by simpa using hold),hVar _,World.keptBut_mono (fun x hx=>⟨hx,?_⟩) (hb.frame (·∈p ++ [])),fun _=>?_⟩
 ·exact Or.inr (by simpa using hx)
 ·refine ⟨ok_one hr1 rfl (okWide_bool_mk hbool _),_,_,([] ++ p) ++ [],⟨[] ++ p,[],trodAll_append (hArg _ (fun _ _=>rfl)) (hRes _ _ _),hVar _,rfl,?_,?_⟩,?_⟩
  ·intro b off hp;have hin:MemPlace.cell b off∈p ++ []:=by simpa using hp
   rw [hb.frozen (hlt _ hin)];exact hz b off hin
  ·intro ha;cases ha
  ·intro x hx _;simpa using hx
end
theorem rowed {P:Program} {ps:Array TypeId} (h:(ps.toList.all fun t=>P.readableRec t && decide (t<P.types.size))=true):∀ t∈ps.toList,P.readableRec t=true∧t<P.types.size:=by
 intro t ht;have:=List.all_eq_true.1 h t ht;simpa using this
section
variable {H:Type} {enc:TypeId×Value→H} {W:World}
end
section
variable {H:Type} {enc:TypeId×Value→H} {W:World}
end
end Go.Proofs.YtjajigkacccdgaaGreat
namespace Go.Proofs.YtjajigkacccdgaaGreat
open Go.RowKit
open Wd
theorem kcost_x {s:Nat} (hs:3≤s) (hs2:s≤100000) (up:Bool) (A:Option Addr) (m n c:Nat) (lv:List St.Lv) (q:Rat) (aA aA':Option Addr) (ak ac ak' ac':Nat) (w:World) (h:LvAt w A m n lv) (hv:VL up n lv) (hq:RQ w q aA ak ac aA' ak' ac') (hl:Ls s q) (h0:0≤q) (h1:q≤((totI lv:Int):Rat)) :
  Calls Tryz.prog 32 #[.slice A m c,.agg #[.bool (decide (q.num<0)),.slice aA ak ac,.bool false,.slice aA' ak' ac']] w (CstPost w (costAt (lvQ lv) q m)):=by
 have h3:=wb_three;have h3s:=wb_mono hs;have hp:=partAt_ls hs hv h0 hl;refine kcost_ok (WB (2*(48*(s+6)+1)+1)) (WB s) (WB s) (WB (48*(s+6)+1)) (WB (48*(s+6)+1)) (wb_ok (by omega)) (by omega) up A m n c lv _ false aA aA' ak ac ak' ac' q w h (hq.qs hl (by omega)) hv h0 h1 ?_;refine costOK_s hs (by decide) (by rw [lvQ_len];have:=hv.len;omega) (fun k hk=>(hp k (by rw [lvQ_len] at hk;exact hk)).2) fun x hx=>?_;have:=hv.prQ x hx;omega
section
variable {os bs:List (List (Int×Int))} {gs ts:List Rat}
end
section
variable {os bs:List (List (Int×Int))}
end
section
variable {lo up:Nat→Int} {n:Nat} {more:Int}
end
section
variable {os bs:List (List (Int×Int))}
end
section
variable {os bs:List (List (Int×Int))}
end
section
variable {lo up:Nat→Int} {n:Nat} {more:Int}
end
section
variable {base g k c k' c':Nat} {w w':World} {A A' B B':Option Addr} {l:List Nat} {a b:Bool}
end
theorem RQ.lens {s k c k' c':Nat} {w:World} {q:Rat} {A A':Option Addr} (h:RQ w q A k c A' k' c') (hq:Ls s q):k≤s∧k'≤s:=by
 obtain ⟨-,-,h1,h2⟩:=h;constructor
 ·rw [← h1.1];exact digs_len_le.2 hq.1
 ·rw [← h2.1];have:=digs_len_le.2 hq.2;unfold denW;split
  ·exact Nat.zero_le _
  ·exact this
section
variable {base g n:Nat} {w w':World}
end
theorem fits_big {xs:List Int} (h:xs.all (fun x=>decide (-10000000≤x∧x≤10000000))=true):∀ i:Nat,Fits (xs[i]?.getD 0):=fun i=>by
 by_cases hi:i<xs.length
 ·have:=of_decide_eq_true (List.all_eq_true.1 h _ (getD_mem (d:=0) hi));exact ⟨by omega,by omega⟩
 ·rw [List.getElem?_eq_none (by omega)];exact ⟨by decide,by decide⟩
theorem StAt.nil (w:World):StAt w none 0 []:=⟨rfl,fun s hs=>absurd hs (by simp),fun h=>absurd rfl h⟩
def AllSt (w:World):List (Option Addr×Nat×Nat)→List (List (Int×Int))→Prop
 | [],[]=>True
 | v :: vs,l :: ls=>StAt w v.1 v.2.1 l∧AllSt w vs ls
 | _,_=>False
theorem AllSt.get {w:World}:∀ {vs:List (Option Addr×Nat×Nat)} {ls:List (List (Int×Int))},AllSt w vs ls→vs.length=ls.length∧∀ j,j<vs.length→StAt w (vs[j]?.getD (none,0,0)).1 (vs[j]?.getD (none,0,0)).2.1 (ls[j]?.getD [])
 | [],[],_=>⟨rfl,fun j hj=>absurd hj (by simp)⟩
 | v :: vs,l :: ls,h=>by
  obtain ⟨e,ih⟩:=AllSt.get h.2;refine ⟨by simp [e],fun j hj=>?_⟩;cases j with
  | zero=>exact h.1
  | succ j=>simpa using ih j (by simpa using hj)
 | [],_ :: _,h=>h.elim
 | _ :: _,[],h=>h.elim
theorem Own.litv {base g:Nat} {e:TypeId} {w:World} {vs:List (Option Addr×Nat×Nat)} (h:Blk w g e (vs.map slv).toArray) (hb:base≤g) (hn:vs.length≤1000):Own base e 1 w (some ⟨g,0,none⟩) vs.length vs.length (vs.map slv):=by
 refine ⟨by simp,Or.inr ⟨g,vs.length,(vs.map slv).toArray,rfl,hb,h,Nat.le_refl _,by simp only [maxLen];omega,by simp,?_⟩⟩;simp;exact List.take_of_length_le (by simp)
theorem CsAt.lits {w:World} {g:Nat} {e:TypeId} {vs:List (Option Addr×Nat×Nat)} {ls:List (List (Int×Int))} (h:Blk w g e (vs.map slv).toArray) (hn:vs.length≤1000) (hv:AllSt w vs ls):CsAt w (some ⟨g,0,none⟩) vs.length ls :=
 Own.css (Own.litv h (Nat.zero_le _) hn) hv.get.1.symm hv.get.2
theorem grown_below {w w':World} (h:w.grownBy w' none):Below w.heap.size w w' :=
 ⟨h.os,h.tape,h.output,h.size,fun k hk=>h.block k hk (by simp)⟩
theorem small_of {ls:List (List (Int×Int))} (h:ls.all (fun l=>decide (l.length≤1000))=true):∀ l∈ls,l.length≤1000000000000:=fun l hl=>by
 have:=of_decide_eq_true (List.all_eq_true.1 h l hl);omega
theorem of_val (a b:Int) (q:Rat) (w:World) (h1:a.natAbs≤9223372036854775807) (h2:b.natAbs≤9223372036854775807) (hq:mkRat (qnum a b) (qden b).natAbs=q) :
  Calls Tryz.prog 38 #[.int .i64 a,.int .i64 b] w (RetQ w q):=by
 subst hq;exact rofq a b w h1 h2
theorem int_val (z:Int) (q:Rat) (w:World) (h1 : -9223372036854775808≤z) (h2:z≤9223372036854775807) (hq:((z:Int):Rat)=q):Calls Tryz.prog 37 #[.int .i64 z] w (RetQ w q):=by
 subst hq;exact rint_any z w h1 h2
theorem CsAt.nil (w:World):CsAt w none 0 []:=⟨rfl,fun h=>absurd rfl h⟩
def BoxQ (w:World) (g:Nat) (q:Rat) (A:Option Addr) (k c:Nat) (A':Option Addr) (k' c':Nat):Prop:=Blk w g 42 #[.bool (decide (q.num<0)),.slice A k c,.bool false,.slice A' k' c']∧RQ w q A k c A' k' c'
theorem BoxQ.below {w w':World} {g:Nat} {q:Rat} {A A':Option Addr} {k c k' c':Nat} (h:BoxQ w g q A k c A' k' c') (hb:Below w.heap.size w w'):BoxQ w' g q A k c A' k' c':=⟨Blk.below h.1 hb h.1.lt,h.2.below hb⟩
theorem is_same {s:Nat} (hs:s≤1000000) {q:Rat} (hl:Ls s q) {w:World} {A A' B B':Option Addr} {k c k' c' j d j' d':Nat} (h:RQ w q A k c A' k' c') (h':RQ w q B j d B' j' d') :
  Calls Tryz.prog 34 #[.agg #[.bool (decide (q.num<0)),.slice A k c,.bool false,.slice A' k' c'],.agg #[.bool (decide (q.num<0)),.slice B j d,.bool false,.slice B' j' d']] w fun e w'=>e=.returned (.bool true)∧Below w.heap.size w w':=by
 have e1:=h.2.2.1.len.trans h'.2.2.1.len.symm;have e2:=h.2.2.2.len.trans h'.2.2.2.len.symm;subst e1;subst e2;have:=RQ.lens h hl;exact ris_yes q A B A' B' k c k' c' d d' w h h' (by omega) (by omega)
end Go.Proofs.YtjajigkacccdgaaGreat
namespace Go.Proofs.YtjajigkacccdgaaGreat
open Go
def mkL (pre:List Value) (n:Nat) (f:Nat→Value):Act:=⟨(pre ++ (List.range n).map f).toArray,[]⟩
section
variable {pre:List Value} {n i t:Nat} {f:Nat→Value} {v:Value}
theorem mkL_get (ht:t=pre.length+i) (hi:i<n):(mkL pre n f).tmps[t]?=some (f i):=by
 subst ht;simp [mkL,hi]
theorem mkL_fix {v:Value} (h:pre[t]?=some v):(mkL pre n f).tmps[t]?=some v:=by
 have ht:t<pre.length:=by
  rcases Nat.lt_or_ge t pre.length with hl|hg
  ·exact hl
  ·rw [List.getElem?_eq_none hg] at h;cases h
 simp [mkL,List.getElem?_append_left ht,h]
theorem mkL_put (ht:t=pre.length+i) (hi:i<n):(mkL pre n f).put (some t) v=mkL pre n (upd f i v):=by
 subst ht;unfold mkL Act.put;simp only [Act.mk.injEq,and_true];apply Array.ext';simp only [Array.toList_setIfInBounds];rw [List.set_append_right _ _ (by omega)]
 congr 1
 rw [Nat.add_sub_cancel_left];apply List.ext_getElem?;intro j;by_cases hj:j<n
 ·by_cases hij:j=i
  ·subst hij;rw [List.getElem?_set_self (by simpa using hj)];simp [hj,upd]
  ·rw [List.getElem?_set_ne (Ne.symm hij)];simp [hj,upd,hij]
 ·rw [List.getElem?_eq_none (by simp;omega),List.getElem?_eq_none (by simp;omega)]
theorem mkL_own (ht:t<pre.length):((mkL pre n f).put (some t) v).eval (.tmp t)=v:=by
 have h:t<(mkL pre n f).tmps.size:=by simp [mkL];omega
 show ((mkL pre n f).tmps.setIfInBounds t v).getD t undef=v;rw [Array.getD_eq_getD_getElem?,Array.getElem?_setIfInBounds_self_of_lt h]
 rfl
theorem wn0 {o:Oper} {y:Nat→Option Bool} (h:o.guard=none):Region.wanted o y=true:=by
 unfold Region.wanted;rw [h]
theorem wn1 {o:Oper} {y:Nat→Option Bool} {g:Nat} {b:Bool} (h:o.guard=some (g,b)) (hy:y g=some b):Region.wanted o y=true:=by
 unfold Region.wanted;rw [h];simp [hy]
end
theorem lt_split {P:Nat→Prop} {n:Nat} (h:∀ i,i<n→P i) (h':P n):∀ i,i<n+1→P i:=fun i hi=>by
 rcases Nat.lt_or_ge i n with hl|hg
 ·exact h i hl
 ·obtain rfl:i=n:=by omega
  exact h'
def cutF (N:Nat) (f:Nat→Value) (j:Nat):Value:=if j<N then f j else undef
def mkC (pre:List Value) (n N:Nat) (f:Nat→Value):Act:=mkL pre n (cutF N f)
section
variable {pre:List Value} {n N i t:Nat} {f:Nat→Value} {v:Value}
theorem mkC_get (ht:t=pre.length+i) (hi:i<N) (hn:N≤n):(mkC pre n N f).tmps[t]?=some (f i):=by
 have h:=mkL_get (f:=cutF N f) ht (Nat.lt_of_lt_of_le hi hn);rw [cutF,if_pos hi] at h;exact h
theorem mkC_fix {v:Value} (h:pre[t]?=some v):(mkC pre n N f).tmps[t]?=some v:=mkL_fix h
theorem mkC_put (ht:t=pre.length+i) (hi:i<N) (hn:N≤n):(mkC pre n N f).put (some t) v=mkC pre n N (upd f i v):=by
 unfold mkC;rw [mkL_put ht (Nat.lt_of_lt_of_le hi hn)]
 congr 1
 funext j
 unfold cutF upd;by_cases h:j=i
 ·subst h;rw [if_pos rfl,if_pos hi,if_pos rfl]
 ·rw [if_neg h,if_neg h]
theorem mkC_own (ht:t<pre.length):((mkC pre n N f).put (some t) v).eval (.tmp t)=v:=mkL_own ht
theorem fin_stepC {K K':Act→World→Prop} {a':Act} {w:World} (HK:∀ a w,K a w→K' a w) (hp:a'=mkC pre n N (upd f i v)) (h:K (mkC pre n N (upd f i v)) w):K' a' w:=hp ▸ HK _ _ h
theorem ydC {ops:Array Oper} {g:Nat} {b:Bool} (hd:(ops[g]?).bind (·.dst)=some t) (ht:t=pre.length+g) (hg:g<N) (hn:N≤n) (e:f g=.bool b):yielded ops (mkC pre n N f).tmps g=some b:=by
 unfold yielded;rw [hd,Option.bind_some,mkC_get ht hg hn,e]
end
theorem region_preC {P:Program} {id:Nat} {ops:Array Oper} {Q:Exit→Act→World→Prop} {a:Act} {w:World} (k n N:Nat) (hd:a=mkC (a.tmps.toList.take k) n N (fun _=>undef))
  (h:∀ pre,pre=a.tmps.toList.take k→(Code.region id ops true).wp P Q (mkC pre n N fun _=>undef) w):(Code.region id ops true).wp P Q a w:=by
 rw [hd];exact h _ rfl
end Go.Proofs.YtjajigkacccdgaaGreat
namespace Go.Proofs.YtjajigkacccdgaaGreat
open Go.RowKit
open Wd
theorem LsAt.nil (w:World):LsAt w none 0 []:=⟨rfl,fun h=>absurd rfl h⟩
theorem LsAt.one {w:World} {g n1:Nat} {t:TypeId} {p1 q1:Int} {A1:Option Addr} {c1:Nat} {x1:List Int} (h:Blk w g t #[.int .i64 p1,.int .i64 q1,.slice A1 n1 c1]) (h1:IsAt w A1 n1 x1) :
  LsAt w (some ⟨g,0,none⟩) 1 [(p1,q1,x1)]:=by
 obtain rfl:x1.length=n1:=h1.1;refine ⟨rfl,fun _=>⟨g,0,rfl,h.lt,fun j hj=>?_⟩⟩;obtain rfl:j=0:=by omega
 exact ⟨A1,c1,⟨h.cell 0,h.cell 1,h.cell 2⟩,h1⟩
theorem LsAt.two {w:World} {g n1 n2:Nat} {t:TypeId} {p1 q1 p2 q2:Int} {A1 A2:Option Addr} {c1 c2:Nat} {x1 x2:List Int} (h:Blk w g t #[.int .i64 p1,.int .i64 q1,.slice A1 n1 c1,.int .i64 p2,.int .i64 q2,.slice A2 n2 c2]) (h1:IsAt w A1 n1 x1) (h2:IsAt w A2 n2 x2) :
  LsAt w (some ⟨g,0,none⟩) 2 [(p1,q1,x1),(p2,q2,x2)]:=by
 obtain rfl:x1.length=n1:=h1.1;obtain rfl:x2.length=n2:=h2.1;refine ⟨rfl,fun _=>⟨g,0,rfl,h.lt,fun j hj=>?_⟩⟩;obtain rfl|rfl:j=0∨j=1:=by omega
 ·exact ⟨A1,c1,⟨h.cell 0,h.cell 1,h.cell 2⟩,h1⟩
 ·exact ⟨A2,c2,⟨h.cell 3,h.cell 4,h.cell 5⟩,h2⟩
theorem LsAt.three {w:World} {g n1 n2 n3:Nat} {t:TypeId} {p1 q1 p2 q2 p3 q3:Int} {A1 A2 A3:Option Addr} {c1 c2 c3:Nat} {x1 x2 x3:List Int} (h:Blk w g t #[.int .i64 p1,.int .i64 q1,.slice A1 n1 c1,.int .i64 p2,.int .i64 q2,.slice A2 n2 c2,.int .i64 p3,.int .i64 q3,.slice A3 n3 c3]) (h1:IsAt w A1 n1 x1) (h2:IsAt w A2 n2 x2) (h3:IsAt w A3 n3 x3) :
  LsAt w (some ⟨g,0,none⟩) 3 [(p1,q1,x1),(p2,q2,x2),(p3,q3,x3)]:=by
 obtain rfl:x1.length=n1:=h1.1;obtain rfl:x2.length=n2:=h2.1;obtain rfl:x3.length=n3:=h3.1;refine ⟨rfl,fun _=>⟨g,0,rfl,h.lt,fun j hj=>?_⟩⟩;obtain rfl|rfl|rfl:j=0∨j=1∨j=2:=by omega
 ·exact ⟨A1,c1,⟨h.cell 0,h.cell 1,h.cell 2⟩,h1⟩
 ·exact ⟨A2,c2,⟨h.cell 3,h.cell 4,h.cell 5⟩,h2⟩
 ·exact ⟨A3,c3,⟨h.cell 6,h.cell 7,h.cell 8⟩,h3⟩
def exRows:List (List St.Lv×Int):=[([],0),([(5,3,[1,2])],0),([(5,3,[1,2]),(6,1,[0,1]),(9,1,[1,0])],0),([(5,3,[1,2]),(4,1,[0,1]),((-9),1,[1,0])],0),([(5,3,[1,2]),(6,1,[0,1]),(4,1,[1,0])],3),([(5,3,[1,2]),(5,1,[0,1])],3),([(5,4,[1,2])],3),([(5,0,[0,0])],3),([(5,3,[1,2]),(6,1,[1])],3),([(5,0,[])],1),([(1000001,1,[1])],1),([(5,1,[-1,2])],1),([(5,1,[1000001])],1),([(5,0,List.replicate 17 0)],1),(List.replicate 49 Lv0,5),(List.replicate 48 Lv0,1)]
abbrev exL (i:Nat):List St.Lv:=(exRows[i]?.getD ([],0)).1
abbrev exE (i:Nat):Int:=(exRows[i]?.getD ([],0)).2
theorem zeros_ck:chkL (List.replicate 48 Lv0)=1:=by
 rw [chkL,if_neg (by simp)];exact (fst0_at (k:=0) rfl (by decide +kernel) (by simp)).trans (by decide +kernel)
theorem exs_ck:∀ i,i<16→chkL (exL i)=exE i:=fun i hi=>by
 by_cases h:i=15
 ·subst h;exact zeros_ck
 ·exact (show ∀ i,i<15→chkL (exL i)=exE i by decide +kernel) i (by omega)
theorem exs_tot (i:Nat) (hi:i<16) (h:exE i≠0):totL (exL i)=0:=by
 rw [totL,if_neg (by rw [exs_ck i hi];exact h)]
def ExsAt (w:World) (g:Nat):Prop:=∀ i,i<16→∃ A c,w.cell? ⟨g,i*2,none⟩=some (.slice A (exL i).length c)∧w.cell? ⟨g,i*2+1,none⟩=some (.int .i64 (exE i))∧LsAt w A (exL i).length (exL i)
theorem exs_at {w:World} {g:Nat} {t:TypeId} {A0 A1 A2 A3 A4 A5 A6 A7 A8 A9 A10 A11 A12 A13 A14 A15:Option Addr} {c0 c1 c2 c3 c4 c5 c6 c7 c8 c9 c10 c11 c12 c13 c14 c15:Nat} (h:Blk w g t #[(.slice A0 0 c0),(.int .i64 0),(.slice A1 1 c1),(.int .i64 0),(.slice A2 3 c2),(.int .i64 0),(.slice A3 3 c3),(.int .i64 0),(.slice A4 3 c4),(.int .i64 3),(.slice A5 2 c5),(.int .i64 3),(.slice A6 1 c6),(.int .i64 3),(.slice A7 1 c7),(.int .i64 3),(.slice A8 2 c8),(.int .i64 3),(.slice A9 1 c9),(.int .i64 1),(.slice A10 1 c10),(.int .i64 1),(.slice A11 1 c11),(.int .i64 1),(.slice A12 1 c12),(.int .i64 1),(.slice A13 1 c13),(.int .i64 1),(.slice A14 49 c14),(.int .i64 5),(.slice A15 48 c15),(.int .i64 1)]) (h0:LsAt w A0 0 []) (h1:LsAt w A1 1 [(5,3,[1,2])]) (h2:LsAt w A2 3 [(5,3,[1,2]),(6,1,[0,1]),(9,1,[1,0])]) (h3:LsAt w A3 3 [(5,3,[1,2]),(4,1,[0,1]),((-9),1,[1,0])]) (h4:LsAt w A4 3 [(5,3,[1,2]),(6,1,[0,1]),(4,1,[1,0])]) (h5:LsAt w A5 2 [(5,3,[1,2]),(5,1,[0,1])]) (h6:LsAt w A6 1 [(5,4,[1,2])]) (h7:LsAt w A7 1 [(5,0,[0,0])]) (h8:LsAt w A8 2 [(5,3,[1,2]),(6,1,[1])]) (h9:LsAt w A9 1 [(5,0,[])]) (h10:LsAt w A10 1 [(1000001,1,[1])]) (h11:LsAt w A11 1 [(5,1,[-1,2])]) (h12:LsAt w A12 1 [(5,1,[1000001])]) (h13:LsAt w A13 1 [(5,0,List.replicate 17 0)]) (h14:LsAt w A14 49 (List.replicate 49 Lv0)) (h15:LsAt w A15 48 (List.replicate 48 Lv0)):ExsAt w g:=fun i hi=>by
 match i,hi with
 | 0,_=>exact ⟨A0,c0,h.cell 0,h.cell 1,h0⟩
 | 1,_=>exact ⟨A1,c1,h.cell 2,h.cell 3,h1⟩
 | 2,_=>exact ⟨A2,c2,h.cell 4,h.cell 5,h2⟩
 | 3,_=>exact ⟨A3,c3,h.cell 6,h.cell 7,h3⟩
 | 4,_=>exact ⟨A4,c4,h.cell 8,h.cell 9,h4⟩
 | 5,_=>exact ⟨A5,c5,h.cell 10,h.cell 11,h5⟩
 | 6,_=>exact ⟨A6,c6,h.cell 12,h.cell 13,h6⟩
 | 7,_=>exact ⟨A7,c7,h.cell 14,h.cell 15,h7⟩
 | 8,_=>exact ⟨A8,c8,h.cell 16,h.cell 17,h8⟩
 | 9,_=>exact ⟨A9,c9,h.cell 18,h.cell 19,h9⟩
 | 10,_=>exact ⟨A10,c10,h.cell 20,h.cell 21,h10⟩
 | 11,_=>exact ⟨A11,c11,h.cell 22,h.cell 23,h11⟩
 | 12,_=>exact ⟨A12,c12,h.cell 24,h.cell 25,h12⟩
 | 13,_=>exact ⟨A13,c13,h.cell 26,h.cell 27,h13⟩
 | 14,_=>exact ⟨A14,c14,h.cell 28,h.cell 29,h14⟩
 | 15,_=>exact ⟨A15,c15,h.cell 30,h.cell 31,h15⟩
 | k+16,h=>exact absurd h (by omega)
def lzero:Array Value:=#[.int .i64 0,.int .i64 0,.slice none 0 0]
theorem run_make_lv (k:Nat) (hk:k≤1000000000) (w:World) :
  (Instr.makeSlice 30 (.int .i64 (k:Int)) (.int .i64 (k:Int))).run Tryz.prog w=.ok (.slice (some ⟨w.heap.size,0,none⟩) k k) (w.alloc (.cells (madeCells lzero (k*3)) 64)):=by
 obtain ⟨i0,hi,hz0,hz1,hz2⟩:=info_parts linfo;have h:=run_make (P:=Tryz.prog) w 30 64 i0 _ Tryz.underlying30 hi hz0 .i64 .i64 k k (by omega) (Int.le_refl _) (by rw [hz2];omega) (by omega);rw [h,hz1];simp only [Int.toNat_natCast,Value.cells]
 rfl
theorem run_make_cs (k:Nat) (hk:k≤1000000000) (w:World) :
  (Instr.makeSlice 22 (.int .i64 (k:Int)) (.int .i64 (k:Int))).run Tryz.prog w=.ok (.slice (some ⟨w.heap.size,0,none⟩) k k) (w.alloc (.cells (madeCells #[.slice none 0 0] (k*1)) 29)):=by
 obtain ⟨i0,hi,hz0,hz1,hz2⟩:=info_parts info_steps;have h:=run_make (P:=Tryz.prog) w 22 29 i0 _ Tryz.underlying22 hi hz0 .i64 .i64 k k (by omega) (Int.le_refl _) (by rw [hz2];omega) (by omega);rw [h,hz1];simp only [Int.toNat_natCast,Value.cells]
theorem LsAt.zeros {w:World} {g n:Nat} {t:TypeId} (h:Blk w g t (madeCells lzero (n*3))):LsAt w (some ⟨g,0,none⟩) n (List.replicate n Lv0):=by
 refine ⟨by simp,fun _=>⟨g,0,rfl,h.lt,fun j hj=>?_⟩⟩;have e:(List.replicate n Lv0)[j]?.getD Lv0=Lv0:=by simp [hj]
 have m:∀ i,i<n*3→(madeCells lzero (n*3))[i]?=some (lzero[i % 3]!):=fun i hi=>by simp [madeCells,hi,lzero]
 rw [e];refine ⟨none,0,⟨?_,?_,?_⟩,rfl,fun h=>absurd rfl h⟩
 ·rw [h.cell,m _ (by omega),show (0+j*3) % 3=0 by omega];rfl
 ·rw [h.cell,m _ (by omega),show (0+j*3+1) % 3=1 by omega];rfl
 ·rw [h.cell,m _ (by omega),show (0+j*3+2) % 3=2 by omega];rfl
theorem run_make_17 (w:World):(Instr.makeSlice 62 (.int .i64 17) (.int .i64 17)).run Tryz.prog w=.ok (.slice (some ⟨w.heap.size,0,none⟩) 17 17) (w.alloc (.cells (madeCells #[.int .i64 0] 17) 2)):=by
 rw [made_ints];exact run_make_ints 17 (by omega) w
theorem run_make_49 (w:World):(Instr.makeSlice 30 (.int .i64 49) (.int .i64 49)).run Tryz.prog w=.ok (.slice (some ⟨w.heap.size,0,none⟩) 49 49) (w.alloc (.cells (madeCells lzero 147) 64)):=run_make_lv 49 (by omega) w
theorem run_make_48 (w:World):(Instr.makeSlice 30 (.int .i64 48) (.int .i64 48)).run Tryz.prog w=.ok (.slice (some ⟨w.heap.size,0,none⟩) 48 48) (w.alloc (.cells (madeCells lzero 144) 64)):=run_make_lv 48 (by omega) w
theorem run_make_16 (w:World):(Instr.makeSlice 22 (.int .i64 16) (.int .i64 16)).run Tryz.prog w=.ok (.slice (some ⟨w.heap.size,0,none⟩) 16 16) (w.alloc (.cells (madeCells #[.slice none 0 0] 16) 29)):=run_make_cs 16 (by omega) w
theorem zeros17 {w:World} {g:Nat} (h:Blk w g 2 (madeCells #[.int .i64 0] 17)):IsAt w (some ⟨g,0,none⟩) 17 (List.replicate 17 0):=by
 rw [made_ints] at h;exact IsAt.lit h rfl (by simp)
def manyC:List (List (Int×Int)):=(List.range 16).map fun (i:Nat)=>[(1,3*(i:Int)),(1,3*(i:Int)+1),(1,3*(i:Int)+2)]
theorem many_ck:(ckC true manyC).2=0:=by decide +kernel
theorem many_pr:(St.pr (St.tri 0 manyC)).length=48:=by decide +kernel
theorem many_sum:St.sumT (St.tri 0 manyC)=48:=by decide +kernel
theorem many_bid:ckC false manyC=(0,3):=by decide +kernel
theorem many_long:ckC true (manyC ++ [[]])=(0,5):=by decide +kernel
theorem two_bad:ckC true [[(1,1)],[(1,1),(2,0)],[]]=(1,3):=by decide +kernel
theorem many_len:∀ l∈manyC,l.length≤1000000000000:=small_of (by decide +kernel)
theorem many_lv (A:Option Addr) (c:Nat) (w:World) (h:CsAt w A 16 manyC) :
  Calls Tryz.prog 16 #[.slice A 16 c] w fun e w'=>∃ mg cap lv,e=.returned (.tuple #[.slice (some ⟨mg,0,none⟩) 48 cap,.int .i64 0,.int .i64 0])∧LvAt w' (some ⟨mg,0,none⟩) 48 16 lv∧VL true 16 lv∧totI lv=48∧Below w.heap.size w w':=by
 refine (merge_offers_ok A 16 c manyC w h many_len many_ck).mono ?_;rintro e w' ⟨D,mg,cap,rfl,h1,h2,h3,h4⟩;have hi:=lvOf_is (n:=16) h1 h2;have hlen:D.length=48:=by
  have:=h2.length_eq;rw [many_pr,List.length_map] at this;exact this
 have hv:=lv_valid (ls:=manyC) many_ck hi;have ha:=h3.at
 rw [hlen] at ha ⊢;exact ⟨mg,cap,_,rfl,ha,hv,(St.tot_is hi).trans many_sum,h4⟩
theorem merge_no (A:Option Addr) (n c:Nat) (ls:List (List (Int×Int))) (w:World) (p x:Int) (hk:ckC true ls=(p,x)) (hx:x≠0) (hs:ls.all (fun l=>decide (l.length≤1000))=true) (h:CsAt w A n ls) :
  Calls Tryz.prog 16 #[.slice A n c] w fun e w'=>e=.returned (.tuple #[.slice none 0 0,.int .i64 p,.int .i64 x])∧Below w.heap.size w w':=by
 have:=merge_offers_no A n c ls w h (small_of hs) (by rw [hk];exact hx)
 rwa [hk] at this
theorem merge_bno (A:Option Addr) (n c:Nat) (ls:List (List (Int×Int))) (w:World) (p x:Int) (hk:ckC false ls=(p,x)) (hx:x≠0) (hs:ls.all (fun l=>decide (l.length≤1000))=true) (h:CsAt w A n ls) :
  Calls Tryz.prog 17 #[.slice A n c] w fun e w'=>e=.returned (.tuple #[.slice none 0 0,.int .i64 p,.int .i64 x])∧Below w.heap.size w w':=by
 have:=merge_bids_no A n c ls w h (small_of hs) (by rw [hk];exact hx)
 rwa [hk] at this
theorem merge_bnil (w:World) :
  Calls Tryz.prog 17 #[.slice none 0 0] w fun e w'=>∃ mg cap,e=.returned (.tuple #[.slice (some ⟨mg,0,none⟩) 0 cap,.int .i64 0,.int .i64 0])∧Below w.heap.size w w':=by
 refine (merge_bids_ok none 0 0 [] w (CsAt.nil w) (by simp) (by decide)).mono ?_;rintro e w' ⟨D,mg,cap,rfl,h1,h2,h3,h4⟩;have hlen:D.length=0:=by
  have:=h2.length_eq;rw [List.length_map] at this;exact this
 rw [hlen];exact ⟨mg,cap,rfl,h4⟩
theorem StAt.setQ {w:World} {A:Option Addr} {n:Nat} {l:List (Int×Int)} {g:Nat} {t:TypeId} {cs:Array Value} (h:StAt w A n l) (hb:Blk w g t cs) (hn:NoInt cs) (i:Nat) (u:Value):StAt (w.setCell ⟨g,i,none⟩ u) A n l:=by
 refine ⟨h.1,h.2.1,fun hn0=>?_⟩;obtain ⟨b,o,rfl,hlt,hc⟩:=h.2.2 hn0;have hne:b≠g:=by
  intro e;subst e;have h0:=(hc 0 (by omega)).1;rw [hb.cell] at h0;exact hn _ _ _ h0
 refine ⟨b,o,rfl,by simpa [World.setCell] using hlt,fun j hj=>?_⟩;have e:∀ x,(w.setCell ⟨g,i,none⟩ u).cell? ⟨b,x,none⟩=w.cell? ⟨b,x,none⟩:=fun x=>World.cell?_of_block (w:=w) (Below.heap_setCell w _ u b (by simpa using hne));rw [e,e];exact hc j hj
theorem slv_noInt (vs:List (Option Addr×Nat×Nat)):NoInt (vs.map slv).toArray:=fun i k z h=>by
 rw [List.getElem?_toArray,List.getElem?_map] at h;cases hh:vs[i]? with
 | none=>rw [hh] at h;exact absurd h (by simp)
 | some v=>rw [hh] at h;exact absurd h (by simp [slv])
theorem made_slv (n:Nat):madeCells #[.slice none 0 0] n=((List.replicate n ((none:Option Addr),0,0)).map slv).toArray:=by
 apply Array.ext
 ·simp [size_madeCells]
 ·intro i h1 h2;simp [madeCells,Nat.mod_one,slv]
def Mn (w:World) (g i:Nat):Prop:=∃ vs:List (Option Addr×Nat×Nat),vs.length=16∧Blk w g 29 (vs.map slv).toArray∧∀ j,j<i→StAt w (vs[j]?.getD (none,0,0)).1 (vs[j]?.getD (none,0,0)).2.1 (manyC[j]?.getD [])
theorem Mn.start {w:World} {g:Nat} (h:Blk w g 29 (madeCells #[.slice none 0 0] 16)):Mn w g 0:=by
 refine ⟨List.replicate 16 (none,0,0),by simp,?_,fun j hj=>absurd hj (by omega)⟩
 rwa [made_slv 16] at h
theorem Mn.below {w w':World} {g i:Nat} (h:Mn w g i) (hb:Below w.heap.size w w'):Mn w' g i:=by
 obtain ⟨vs,h1,h2,h3⟩:=h;exact ⟨vs,h1,h2.below hb h2.lt,fun j hj=>(h3 j hj).below hb⟩
theorem Mn.step {w:World} {g i:Nat} {A:Option Addr} {n c:Nat} (h:Mn w g i) (hi:i<16) (hs:StAt w A n (manyC[i]?.getD [])):Mn (w.setCell ⟨g,i,none⟩ (.slice A n c)) g (i+1):=by
 obtain ⟨vs,h1,h2,h3⟩:=h;refine ⟨vs.set i (A,n,c),by simpa using h1,?_,fun j hj=>?_⟩
 ·have:=h2.set i (.slice A n c)
  rwa [show (vs.map slv).toArray.setIfInBounds i (.slice A n c)=((vs.set i (A,n,c)).map slv).toArray by rw [List.map_set,List.setIfInBounds_toArray];rfl] at this
 ·rw [List.getElem?_set];by_cases hij:i=j
  ·subst hij;rw [if_pos rfl,if_pos (by omega)];exact hs.setQ h2 (slv_noInt vs) i _
  ·rw [if_neg hij];exact (h3 j (by omega)).setQ h2 (slv_noInt vs) i _
theorem many_get (i:Nat) (hi:i<16):manyC[i]?.getD []=[(1,3*(i:Int)),(1,3*(i:Int)+1),(1,3*(i:Int)+2)]:=by simp [manyC,hi]
theorem many_fit (i:Nat) (hi:i<16):∀ j:Nat,Fits ([1,3*(i:Int),1,3*(i:Int)+1,1,3*(i:Int)+2][j]?.getD 0):=by
 intro j
 match j with
 | 0=>exact ⟨by show _≤(1:Int);omega,by show (1:Int)≤_;omega⟩
 | 1=>exact ⟨by show _≤3*(i:Int);omega,by show 3*(i:Int)≤_;omega⟩
 | 2=>exact ⟨by show _≤(1:Int);omega,by show (1:Int)≤_;omega⟩
 | 3=>exact ⟨by show _≤3*(i:Int)+1;omega,by show 3*(i:Int)+1≤_;omega⟩
 | 4=>exact ⟨by show _≤(1:Int);omega,by show (1:Int)≤_;omega⟩
 | 5=>exact ⟨by show _≤3*(i:Int)+2;omega,by show 3*(i:Int)+2≤_;omega⟩
 | j+6=>exact ⟨by show _≤(0:Int);omega,by show (0:Int)≤_;omega⟩
structure MnF (w:World) (g:Nat) (vs:List (Option Addr×Nat×Nat)):Prop where
 len:vs.length=16
 blk:Blk w g 29 (vs.map slv).toArray
 sts:∀ j,j<16→StAt w (vs[j]?.getD (none,0,0)).1 (vs[j]?.getD (none,0,0)).2.1 (manyC[j]?.getD [])
theorem MnF.below {w w':World} {g:Nat} {vs:List (Option Addr×Nat×Nat)} (h:MnF w g vs) (hb:Below w.heap.size w w'):MnF w' g vs :=
 ⟨h.len,h.blk.below hb h.blk.lt,fun j hj=>(h.sts j hj).below hb⟩
theorem MnF.cs {w:World} {g:Nat} {vs:List (Option Addr×Nat×Nat)} (h:MnF w g vs):CsAt w (some ⟨g,0,none⟩) 16 manyC:=by
 have ho:=Own.litv (base:=0) h.blk (Nat.zero_le _) (by rw [h.len];omega);rw [h.len] at ho;exact Own.css ho rfl h.sts
theorem MnF.more {w:World} {g:Nat} {vs:List (Option Addr×Nat×Nat)} (h:MnF w g vs):∀ j,j<17→StAt w ((vs ++ [(none,0,0)])[j]?.getD (none,0,0)).1 ((vs ++ [(none,0,0)])[j]?.getD (none,0,0)).2.1 ((manyC ++ [[]])[j]?.getD []):=fun j hj=>by
 have hm:manyC.length=16:=by simp [manyC]
 by_cases h1:j<16
 ·rw [List.getElem?_append_left (by rw [h.len];exact h1),List.getElem?_append_left (by rw [hm];exact h1)];exact h.sts j h1
 ·obtain rfl:j=16:=by omega
  rw [List.getElem?_append_right (by rw [h.len];omega),List.getElem?_append_right (by rw [hm];omega),h.len,hm];exact StAt.nil w
theorem Mn.fin {w:World} {g:Nat} (h:Mn w g 16):∃ vs,MnF w g vs:=by
 obtain ⟨vs,h1,h2,h3⟩:=h;exact ⟨vs,h1,h2,h3⟩
theorem Mn.cel {w:World} {g i:Nat} (h:Mn w g i) (hi:i<16):(∃ u,w.cell? ⟨g,i,none⟩=some u)∧w.frozen? ⟨g,i,none⟩=false:=by
 obtain ⟨vs,h1,h2,h3⟩:=h;refine ⟨?_,h2.frozen i⟩;rw [h2.cell];exact ⟨slv vs[i],by simp [h1,hi]⟩
abbrev lv1:List St.Lv:=[(5,3,[1,2])]
theorem lv1_ck:VL true 2 lv1:=by
 have:=chkL_VL (lv:=lv1) (by decide);obtain ⟨up,h⟩:=this;exact ⟨h.len,h.n0,h.n16,h.price,h.parts,h.sum,by simp [lv1]⟩
theorem lv1_cost:costAt (lvQ lv1) (mkRat 1 2) 1=mkRat 5 2:=by decide +kernel
theorem lv1_share:qAll lv1 2 (mkRat 5 2) 1=[mkRat 1 2,2]:=by decide +kernel
theorem vl_nil:VL true 0 []:=⟨by simp,by simp,by simp,by simp,by simp,by simp,by simp⟩
theorem ecost (A:Option Addr) (c:Nat) (N M:Option Addr) (n o p s:Nat) (q v:Rat) (w:World) (hq:q=mkRat 1 2) (hv:v=mkRat 5 2) (h:LsAt w A 1 lv1) (hr:RQ w q N n o M p s) :
  Calls Tryz.prog 32 #[.slice A 1 c,.agg #[.bool (decide (q.num<0)),.slice N n o,.bool false,.slice M p s]] w fun e w'=>∃ N n o M p s,e=.returned (.tuple #[.agg #[.bool (decide (v.num<0)),.slice N n o,.bool false,.slice M p s],.int .i64 0])∧RQ w' v N n o M p s∧Below w.heap.size w w':=by
 subst hq;have hc:costAt (lvQ lv1) (mkRat 1 2) 1=v:=lv1_cost.trans hv.symm;have:=kcost_x (s:=7) (by decide) (by decide) true A 1 2 c lv1 (mkRat 1 2) N M n o p s w (LsAt.lv h (by decide)) lv1_ck hr ⟨by decide +kernel,by decide +kernel⟩ (by decide +kernel) (by decide +kernel);rw [hc] at this;refine this.mono ?_;rintro e w' ⟨A,k,c,A',k',c',h1,h2,h3⟩;exact ⟨A,k,c,A',k',c',h1,h2.wq,h3⟩
theorem eshare (A:Option Addr) (c:Nat) (N M:Option Addr) (n o p s:Nat) (q r1 r2:Rat) (w:World) (hq:q=mkRat 5 2) (h1:r1=mkRat 1 2) (h2:r2=2) (h:LsAt w A 1 lv1) (hr:RQ w q N n o M p s) :
  Calls Tryz.prog 31 #[.slice A 1 c,.agg #[.bool (decide (q.num<0)),.slice N n o,.bool false,.slice M p s]] w fun e w'=>∃ X xc,e=.returned (.tuple #[.slice X 2 xc,.int .i64 0])∧QsAt w' X 2 [r1,r2]∧Below w.heap.size w w':=by
 subst hq;have hc:qAll lv1 2 (mkRat 5 2) 1=[r1,r2]:=by rw [lv1_share,h1,h2]
 refine (share_q (s:=7) (by decide) (by decide) true A 1 2 c lv1 (mkRat 5 2) _ false N M n o p s w (LsAt.lv h (by decide)) lv1_ck (hr.qs ⟨by decide +kernel,by decide +kernel⟩ (by decide)) (by decide +kernel) (by decide +kernel) (by decide)).mono ?_;rintro e w' ⟨g,rfl,h3,-,hb⟩;have h4:=h3.at
 rw [hc] at h4;exact ⟨_,_,rfl,h4,hb⟩
theorem erows (A B:Option Addr) (c d:Nat) (r1 r2:Rat) (w:World) (h1:r1=mkRat 1 2) (h2:r2=2) (h:QsAt w A 2 [r1,r2]) (h':QsAt w B 2 [r1,r2]) :
  Calls Tryz.prog 33 #[.slice A 2 c,.slice B 2 d] w fun e w'=>e=.returned (.bool true)∧Below w.heap.size w w':=by
 refine rrows_yes A B 2 c d [r1,r2] w h h' (by decide) ?_;subst h1;subst h2;decide +kernel
theorem QsAt.lit2 {w:World} {g:Nat} {t:TypeId} {q r:Rat} {A A' B B':Option Addr} {k c k' c' j d j' d':Nat} (h:Blk w g t #[.bool (decide (q.num<0)),.slice A k c,.bool false,.slice A' k' c',.bool (decide (r.num<0)),.slice B j d,.bool false,.slice B' j' d']) (hq:RQ w q A k c A' k' c') (hr:RQ w r B j d B' j' d'):QsAt w (some ⟨g,0,none⟩) 2 [q,r]:=by
 refine ⟨rfl,fun _=>⟨g,0,rfl,h.lt,fun i hi=>?_⟩⟩;obtain rfl|rfl:i=0∨i=1:=by omega
 ·exact ⟨_,_,_,_,_,_,h.cell 0,h.cell 1,h.cell 2,h.cell 3,hq⟩
 ·exact ⟨_,_,_,_,_,_,h.cell 4,h.cell 5,h.cell 6,h.cell 7,hr⟩
def VI (n:Nat) (xs:List Int) (v:Value) (w:World):Prop:=∃ A,v=.slice A n n∧IsAt w A n xs
def VLv (p q:Int) (n:Nat) (xs:List Int) (v:Value) (w:World):Prop:=∃ A,v=.agg #[.int .i64 p,.int .i64 q,.slice A n n]∧IsAt w A n xs
def VS (m:Nat) (lv:List St.Lv) (v:Value) (w:World):Prop:=∃ A,v=.slice A m m∧LsAt w A m lv
def VX (m:Nat) (lv:List St.Lv) (e:Int) (v:Value) (w:World):Prop:=∃ A,v=.agg #[.slice A m m,.int .i64 e]∧LsAt w A m lv
def VT (v:Value) (w:World):Prop:=∃ g,v=.slice (some ⟨g,0,none⟩) 16 16∧g<w.heap.size∧ExsAt w g
def Vq (q:Rat) (v:Value) (w:World):Prop:=∃ A k c A' k' c',v=.agg #[.bool (decide (q.num<0)),.slice A k c,.bool false,.slice A' k' c']∧RQ w q A k c A' k' c'
def VQ (n:Nat) (qs:List Rat) (v:Value) (w:World):Prop:=∃ A,v=.slice A n n∧QsAt w A n qs
theorem VI.stay (n:Nat) (xs:List Int):Stay (VI n xs):=fun _ _ _ ⟨A,h1,h2⟩ hk=>⟨A,h1,h2.below hk⟩
theorem VLv.stay (p q:Int) (n:Nat) (xs:List Int):Stay (VLv p q n xs):=fun _ _ _ ⟨A,h1,h2⟩ hk=>⟨A,h1,h2.below hk⟩
theorem VS.stay (m:Nat) (lv:List St.Lv):Stay (VS m lv):=fun _ _ _ ⟨A,h1,h2⟩ hk=>⟨A,h1,h2.below hk⟩
theorem VX.stay (m:Nat) (lv:List St.Lv) (e:Int):Stay (VX m lv e):=fun _ _ _ ⟨A,h1,h2⟩ hk=>⟨A,h1,h2.below hk⟩
theorem ExsAt.below {w w':World} {g:Nat} (h:ExsAt w g) (hg:g<w.heap.size) (hb:Below w.heap.size w w'):ExsAt w' g:=fun i hi=>by
 obtain ⟨A,c,h1,h2,h3⟩:=h i hi;exact ⟨A,c,(hb.cell hg).trans h1,(hb.cell hg).trans h2,h3.below hb⟩
theorem VT.stay:Stay VT:=fun _ _ _ ⟨g,h1,h2,h3⟩ hk=>⟨g,h1,Nat.lt_of_lt_of_le h2 (Below.size hk),h3.below h2 hk⟩
theorem Vq.stay (q:Rat):Stay (Vq q):=fun _ _ _ ⟨A,k,c,A',k',c',h1,h2⟩ hk=>⟨A,k,c,A',k',c',h1,h2.below hk⟩
theorem VQ.stay (n:Nat) (qs:List Rat):Stay (VQ n qs):=fun _ _ _ ⟨A,h1,h2⟩ hk=>⟨A,h1,h2.below hk⟩
end Go.Proofs.YtjajigkacccdgaaGreat
