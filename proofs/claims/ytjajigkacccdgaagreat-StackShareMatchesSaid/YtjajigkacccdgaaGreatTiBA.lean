/-
Lemmas of the walk; no further conditions.
-/
import Derived.OrdersHeld
import Derived.Deep.RegionHeld3
import Derived.Test.YtjajigkacccdgaaGreatTiAZ
set_option linter.unusedVariables false
set_option linter.unusedSimpArgs false
set_option maxRecDepth 100000
set_option maxHeartbeats 16000000
namespace Go.Proofs.YtjajigkacccdgaaGreat
open Go
section
variable {P:Program} {ops fr:Array Oper} {Q:Exit→Act→World→Prop} {N r:Nat}
def Qfr (Q:Exit→Act→World→Prop) (k:Act→World→Prop):Exit→Act→World→Prop
 | .normal=>k
 | .panic c=>Q (.panic c)
 | e=>Q e
theorem wpAny_more:∀ (f:Nat) (l:Array Bool) (a:Act) (w:World),wpAny P .any ops Q f l a w→wpAny P .any ops Q (f+1) l a w
 | 0,_,_,_,h=>⟨fun _=>h.2,by rw [h.1];intro i hi;cases hi⟩
 | f+1,l,a,w,h=>⟨h.1,fun i hi=>wpOp_mono (fun a' w'=>wpAny_more f _ a' w') (h.2 i hi)⟩
theorem wpAny_mores {f:Nat} {l:Array Bool} {a:Act} {w:World} (h:wpAny P .any ops Q f l a w):∀ k,wpAny P .any ops Q (f+k) l a w
 | 0=>h
 | k+1=>wpAny_more _ _ _ _ (wpAny_mores h k)
def needs (ops:Array Oper) (i:Nat):List Nat:=((ops[i]?).map fun o=>(o.after.toList.filter (Region.binds .any)).map (·.on)).getD []
def reach (ops:Array Oper):Nat→Nat→Nat→Bool
 | 0,_,_=>false
 | f+1,j,i=>(needs ops j).any (fun k=>k == i) || (needs ops j).any (fun k=>reach ops f k i)
def Clo (ops:Array Oper) (l:Array Bool):Prop:=∀ k,l.getD k false=true→∀ e∈needs ops k,l.getD e false=true
theorem reach_listed {l:Array Bool} (hc:Clo ops l):∀ (f j i:Nat),(∀ e∈needs ops j,l.getD e false=true)→reach ops f j i=true→l.getD i false=true
 | 0,_,_,_,h=>by cases h
 | f+1,j,i,hj,h=>by
  unfold reach at h;rcases Bool.or_eq_true_iff.1 h with h|h
  ·obtain ⟨k,hk,e⟩:=List.any_eq_true.1 h;rw [← eq_of_beq e];exact hj k hk
  ·obtain ⟨k,hk,e⟩:=List.any_eq_true.1 h;exact reach_listed hc f k i (hc k (hj k hk)) e
theorem ready_needs {l:Array Bool} {i:Nat}:i∈Region.ready .any ops l↔l.getD i true=false∧i<ops.size∧∀ e∈needs ops i,l.getD e false=true:=by
 rw [mem_ready];unfold needs;constructor
 ·rintro ⟨h0,o,ho,h⟩;refine ⟨h0,(Array.getElem?_eq_some_iff.1 ho).1,?_⟩;rw [ho];intro e he;simp only [Option.map_some,Option.getD_some,List.mem_map,List.mem_filter] at he;obtain ⟨x,⟨hx,hb⟩,rfl⟩:=he;exact h x (by simpa using hx) hb
 ·rintro ⟨h0,hi,h⟩;have ho:ops[i]?=some ops[i]:=Array.getElem?_eq_getElem hi;refine ⟨h0,_,ho,fun e he hb=>?_⟩;refine h e.on ?_;rw [ho];simp only [Option.map_some,Option.getD_some,List.mem_map,List.mem_filter];exact ⟨e,⟨by simpa using he,hb⟩,rfl⟩
def mask (N r:Nat):Array Bool:=Array.replicate N true ++ Array.replicate r false
def wide (l:Array Bool) (r:Nat):Array Bool:=l ++ Array.replicate r false
theorem wide_lt {l:Array Bool} {i:Nat} (d:Bool) (h:i<l.size):(wide l r).getD i d=l.getD i d:=by
 unfold wide;simp [Array.getD_eq_getD_getElem?,Array.getElem?_append_left h]
theorem wide_ge {l:Array Bool} {i:Nat} (h:l.size≤i):(wide l r).getD i false=false:=by
 unfold wide;rw [Array.getD_eq_getD_getElem?,Array.getElem?_append_right h,Array.getElem?_replicate];split<;>rfl
theorem wide_set {l:Array Bool} {i:Nat} (h:i<l.size):(wide l r).setIfInBounds i true=wide (l.setIfInBounds i true) r:=by
 unfold wide;rw [Array.setIfInBounds_append_left h]
def splits (ops:Array Oper) (N r:Nat):Bool :=
 (ops.size == N+r) && ((List.range (N+r)).all fun i=>(needs ops i).all (fun k=>decide (k<i)) && (((ops[i]?).map fun o=>match o.guard with|none=>true|some (g,_)=>decide (g<i)).getD true)) &&
  ((List.range r).all fun j=>(List.range N).all fun i=>reach ops (N+r) (N+j) i)
theorem wpOp_front {i:Nat} {o:Oper} {K K':Act→World→Prop} {k:Act→World→Prop} {a:Act} {w:World} (h1:fr[i]?=some o) (h2:ops[i]?=some o) (hg:∀ g b,o.guard=some (g,b)→fr[g]?=ops[g]?) (hK:∀ a w,K a w→K' a w)
  (h:wpOp P fr (Qfr Q k) i K a w):wpOp P ops Q i K' a w:=by
 unfold wpOp at *;simp only [h1,h2] at *;have hw:Region.wanted o (yielded fr a.tmps)=Region.wanted o (yielded ops a.tmps):=by
  unfold Region.wanted;cases ho:o.guard with
  | none=>rfl
  | some p=>obtain ⟨g,b⟩:=p;simp only [yielded,hg g b ho]
 rw [← hw];have hl:LetsOut (Qfr Q k)→LetsOut Q:=fun ⟨a,w,h⟩=>⟨a,w,h⟩;split
 ·rename_i hw'
  simp only [hw',if_true] at h;refine h.imp (fun h=>?_) (fun h=>⟨h.1,hl h.2⟩);unfold Oper.wp at *;generalize (execOp a.eval o).run P w=res at *;cases res with
  | ok n w' =>
   cases n<;>simp only [Oper.upon] at h ⊢
   case value=>exact hK _ _ h
   case skip=>exact hK _ _ h
   case defer=>exact hK _ _ h
   case enter f args =>
    refine Calls.mono h fun e w'' he=>?_;cases e with
    | returned u=>exact hK _ _ he
    | panicked c=>exact he
    | outgrown=>exact hl he
   case row row args=>exact Rows.mono h fun _ _ he=>hK _ _ he
  | halt x w'=>cases x<;>simp only [Oper.upon] at h ⊢<;>exact h
 ·rename_i hw'
  simp only [hw'] at h;exact hK _ _ h
theorem wpOp_back {i:Nat} {o:Oper} {K:Act→World→Prop} {k:Act→World→Prop} {a:Act} {w:World} (h1:fr[i]?=some o) (h2:ops[i]?=some o) (hg:∀ g b,o.guard=some (g,b)→fr[g]?=ops[g]?)
  (h:wpOp P ops Q i K a w):wpOp P fr (Qfr Q k) i K a w:=by
 unfold wpOp at *;simp only [h1,h2] at *;have hw:Region.wanted o (yielded fr a.tmps)=Region.wanted o (yielded ops a.tmps):=by
  unfold Region.wanted;cases ho:o.guard with
  | none=>rfl
  | some p=>obtain ⟨g,b⟩:=p;simp only [yielded,hg g b ho]
 rw [hw];have hl:LetsOut Q→LetsOut (Qfr Q k):=fun ⟨a,w,h⟩=>⟨a,w,h⟩;split
 ·rename_i hw'
  simp only [hw',if_true] at h;refine h.imp (fun h=>?_) (fun h=>⟨h.1,hl h.2⟩);unfold Oper.wp at *;generalize (execOp a.eval o).run P w=res at *;cases res with
  | ok n w' =>
   cases n<;>simp only [Oper.upon] at h ⊢
   case value=>exact h
   case skip=>exact h
   case defer=>exact h
   case enter f args =>
    refine Calls.mono h fun e w'' he=>?_;cases e with
    | returned u=>exact he
    | panicked c=>exact he
    | outgrown=>exact hl he
   case row row args=>exact Rows.mono h fun _ _ he=>he
  | halt x w'=>cases x<;>simp only [Oper.upon] at h ⊢<;>exact h
 ·rename_i hw'
  simp only [hw'] at h;exact h
theorem min_or_full (hA:∀ i,i<fr.size→∀ k∈needs fr i,k<i) (l:Array Bool) (hl:l.size=fr.size):(∀ i,i<fr.size→l.getD i false=true)∨∃ i,i<fr.size∧i∈Region.ready .any fr l:=by
 rcases Classical.em (∀ i,i<fr.size→l.getD i false=true) with h|h
 ·exact .inl h
 ·right;have:∃ i,i<fr.size∧l.getD i false=false:=by
   rcases Classical.em (∃ i,i<fr.size∧l.getD i false=false) with h'|h'
   ·exact h'
   ·exact absurd (fun i hi=>by
     cases e:l.getD i false
     ·exact absurd ⟨i,hi,e⟩ h'
     ·rfl) h
  obtain ⟨i,hi,e⟩:=this
  induction i using Nat.strongRecOn with
  | ind i ih =>
   rcases Classical.em (∀ e∈needs fr i,l.getD e false=true) with h'|h'
   ·refine ⟨i,hi,ready_needs.2 ⟨?_,by omega,h'⟩⟩;simp only [Array.getD_eq_getD_getElem?,Array.getElem?_eq_getElem (show i<l.size by omega),Option.getD_some] at e ⊢;exact e
   ·have:∃ k,k∈needs fr i∧l.getD k false=false:=by
     rcases Classical.em (∃ k,k∈needs fr i∧l.getD k false=false) with h2|h2
     ·exact h2
     ·exact absurd (fun k hk=>by
       cases e:l.getD k false
       ·exact absurd ⟨k,hk,e⟩ h2
       ·rfl) h'
    obtain ⟨k,hk,e'⟩:=this;have hlt:k<i:=hA i hi k hk;exact ih k hlt (by omega) e'
theorem countP_lt {p q:Nat→Bool} (h:∀ x,p x=true→q x=true) {i:Nat} (h1:q i=true) (h2:p i=false):∀ (l:List Nat),i∈l→l.countP p<l.countP q
 | [],hi=>by cases hi
 | x :: l,hi=>by
  have hle:l.countP p≤l.countP q:=List.countP_mono_left fun x _=>h x;rw [List.countP_cons,List.countP_cons];rcases List.mem_cons.1 hi with rfl|hi
  ·rw [h1,h2];simp;omega
  ·have:=countP_lt h h1 h2 l hi;have hx:=h x;cases hp:p x<;>cases hq:q x<;>simp_all<;>omega
def upd (f:Nat→Value) (i:Nat) (v:Value) (j:Nat):Value:=if j=i then v else f j
theorem wpAny_gather (mk:(Nat→Value)→Act) (V:Nat→Value→World→Prop) (D:Nat→Nat→Value→Value→Prop) (S:World→Prop) (R:World→World→Prop) (hA:∀ i,i<fr.size→∀ k∈needs fr i,k<i) (hV:∀ j v w w',V j v w→R w w'→V j v w')
  (hstep:∀ i,i<fr.size→∀ (f:Nat→Value) (w:World) (K:Act→World→Prop),S w→(∀ j∈needs fr i,V j (f j) w)→(∀ v w',S w'→R w w'→V i v w'→(∀ j u,V j u w→D i j v u)→K (mk (upd f i v)) w')→wpOp P fr Q i K (mk f) w)
  (hend:∀ (f:Nat→Value) (w:World),S w→(∀ i,i<fr.size→V i (f i) w)→(∀ i j,i<fr.size→j<fr.size→i≠j→D i j (f i) (f j)∨D j i (f j) (f i))→Q .normal (mk f) w) :
  ∀ (fuel:Nat) (l:Array Bool) (f:Nat→Value) (w:World),l.size=fr.size→(List.range fr.size).countP (fun i=>!l.getD i false)≤fuel→S w→(∀ i,i<fr.size→l.getD i false=true→V i (f i) w) →
   (∀ i j,i<fr.size→j<fr.size→i≠j→l.getD i false=true→l.getD j false=true→D i j (f i) (f j)∨D j i (f j) (f i))→wpAny P .any fr Q fuel l (mk f) w:=by
 have hfin:∀ (l:Array Bool) (f:Nat→Value) (w:World),(∀ i,i<fr.size→l.getD i false=true)→S w→(∀ i,i<fr.size→l.getD i false=true→V i (f i) w) →
   (∀ i j,i<fr.size→j<fr.size→i≠j→l.getD i false=true→l.getD j false=true→D i j (f i) (f j)∨D j i (f j) (f i))→Q .normal (mk f) w:=fun l f w hall hS hv hd =>
  hend f w hS (fun i hi=>hv i hi (hall i hi)) (fun i j hi hj hne=>hd i j hi hj hne (hall i hi) (hall j hj))
 intro fuel
 induction fuel with
 | zero =>
  intro l f w hl hc hS hv hd;have hall:∀ i,i<fr.size→l.getD i false=true:=fun i hi=>by
   have h0:(List.range fr.size).countP (fun i=>!l.getD i false)=0:=by omega
   have:=List.countP_eq_zero.1 h0 i (List.mem_range.2 hi);simpa using this
  refine ⟨List.eq_nil_iff_forall_not_mem.2 fun i hi=>?_,hfin l f w hall hS hv hd⟩;obtain ⟨g1,g2,-⟩:=ready_needs.1 hi;have:=hall i g2;simp only [Array.getD_eq_getD_getElem?,Array.getElem?_eq_getElem (show i<l.size by omega),Option.getD_some] at this g1;rw [g1] at this;cases this
 | succ fuel ih =>
  intro l f w hl hc hS hv hd;refine ⟨fun h0=>?_,fun i hi=>?_⟩
  ·rcases min_or_full hA l hl with h|⟨i,_,h⟩
   ·exact hfin l f w h hS hv hd
   ·rw [h0] at h;cases h
  ·obtain ⟨g1,g2,g3⟩:=ready_needs.1 hi;have g1':l.getD i false=false:=by
    simp only [Array.getD_eq_getD_getElem?,Array.getElem?_eq_getElem (show i<l.size by omega),Option.getD_some] at g1 ⊢;exact g1
   refine hstep i g2 f w _ hS (fun j hj=>hv j (by have:=hA i g2 j hj;omega) (g3 j hj)) (fun v w' hS' hR hVi hD=>?_);have hlist:∀ j,(l.setIfInBounds i true).getD j false=true→j=i∨(j≠i∧l.getD j false=true):=fun j hj=>by
    by_cases hji:j=i
    ·exact .inl hji
    ·rw [getD_set_ne false (Ne.symm hji)] at hj;exact .inr ⟨hji,hj⟩
   refine ih _ _ _ (by simp [hl]) ?_ hS' (fun j hj hlj=>?_) (fun j k hj hk hne hlj hlk=>?_)
   ·have:=countP_lt (p:=fun j=>!(l.setIfInBounds i true).getD j false) (q:=fun j=>!l.getD j false) (i:=i) (fun j hj=>by
     cases e:l.getD j false
     ·rfl
     ·rw [getD_set_true e] at hj;cases hj) (by simp only [g1'];rfl) (by simp [show i<l.size by omega]) (List.range fr.size) (List.mem_range.2 g2)
    omega
   ·rcases hlist j hlj with rfl|⟨hji,hlj⟩
    ·unfold upd;rw [if_pos rfl];exact hVi
    ·unfold upd;rw [if_neg hji];exact hV _ _ _ _ (hv j hj hlj) hR
   ·rcases hlist j hlj with rfl|⟨hji,hlj'⟩
    ·rcases hlist k hlk with rfl|⟨hki,hlk'⟩
     ·exact absurd rfl hne
     ·unfold upd;rw [if_pos rfl,if_neg hki];exact .inl (hD k _ (hv k hk hlk'))
    ·rcases hlist k hlk with rfl|⟨hki,hlk'⟩
     ·unfold upd;rw [if_pos rfl,if_neg hji];exact .inr (hD j _ (hv j hj hlj'))
     ·unfold upd;rw [if_neg hji,if_neg hki];exact hd j k hj hk hne hlj' hlk'
theorem wpAny_split (hs:splits ops N r=true) (hf:fr.size=N) (hpre:∀ i,i<N→fr[i]?=ops[i]?):∀ (f:Nat) (l:Array Bool) (a:Act) (w:World),l.size=N→Clo fr l →
  wpAny P .any fr (Qfr Q (wpAny P .any ops Q r (mask N r))) f l a w→wpAny P .any ops Q (f+r) (wide l r) a w:=by
 unfold splits at hs;simp only [Bool.and_eq_true,beq_iff_eq,List.all_eq_true,List.mem_range,decide_eq_true_eq] at hs;obtain ⟨⟨hM,hA⟩,hR⟩:=hs;have hneed:∀ i,i<N→needs fr i=needs ops i:=fun i hi=>by unfold needs;rw [hpre i hi]
 -- all listed,or one that is not listed may come up
 have hmin:∀ (l:Array Bool),l.size=N→(∀ i,i<N→l.getD i false=true)∨∃ i,i<N∧i∈Region.ready .any fr l:=fun l hl=>by
  rcases Classical.em (∀ i,i<N→l.getD i false=true) with h|h
  ·exact .inl h
  ·right;have:∃ i,i<N∧l.getD i false=false:=by
    rcases Classical.em (∃ i,i<N∧l.getD i false=false) with h'|h'
    ·exact h'
    ·exact absurd (fun i hi=>by
      cases e:l.getD i false
      ·exact absurd ⟨i,hi,e⟩ h'
      ·rfl) h
   obtain ⟨i,hi,e⟩:=this
   induction i using Nat.strongRecOn with
   | ind i ih =>
    rcases Classical.em (∀ e∈needs fr i,l.getD e false=true) with h'|h'
    ·refine ⟨i,hi,ready_needs.2 ⟨?_,by omega,h'⟩⟩;simp only [Array.getD_eq_getD_getElem?,Array.getElem?_eq_getElem (show i<l.size by omega),Option.getD_some] at e ⊢;exact e
    ·have:∃ k,k∈needs fr i∧l.getD k false=false:=by
      rcases Classical.em (∃ k,k∈needs fr i∧l.getD k false=false) with h2|h2
      ·exact h2
      ·exact absurd (fun k hk=>by
        cases e:l.getD k false
        ·exact absurd ⟨k,hk,e⟩ h2
        ·rfl) h'
     obtain ⟨k,hk,e'⟩:=this;have hlt:k<i:=(hA i (by omega)).1 k (by rw [← hneed i hi];exact hk);exact ih k hlt (by omega) e'
 have hfull:∀ (l:Array Bool),l.size=N→(∀ i,i<N→l.getD i false=true)→wide l r=mask N r:=fun l hl h=>by
  unfold wide mask
  congr 1
  apply Array.ext
  ·simp [hl]
  ·intro i h1 h2;have:=h i (by omega);simp only [Array.getD_eq_getD_getElem?,Array.getElem?_eq_getElem h1,Option.getD_some] at this;simp [this]
 intro f
 induction f with
 | zero =>
  intro l a w hl hc h;rcases hmin l hl with h1|⟨i,_,h1⟩
  ·rw [hfull l hl h1,Nat.zero_add];exact h.2
  ·rw [h.1] at h1;cases h1
 | succ f ih =>
  intro l a w hl hc h;rcases hmin l hl with h1|⟨i0,hi0,h1⟩
  ·have hr:Region.ready .any fr l=[]:=by
    refine List.eq_nil_iff_forall_not_mem.2 fun i hi=>?_;obtain ⟨g1,g2,-⟩:=ready_needs.1 hi;have:=h1 i (by omega);simp only [Array.getD_eq_getD_getElem?,Array.getElem?_eq_getElem (show i<l.size by omega),Option.getD_some] at this g1;rw [g1] at this;cases this
   rw [hfull l hl h1,show f+1+r=r+(f+1) by omega];exact wpAny_mores (h.1 hr) _
  ·have hcw:Clo ops (wide l r):=fun k hk e he=>by
    rcases Nat.lt_or_ge k N with hk'|hk'
    ·rw [wide_lt false (by omega)] at hk;have hlt:e<k:=(hA k (by omega)).1 e he;rw [wide_lt false (by omega)];exact hc k hk e (by rw [hneed k hk'];exact he)
    ·rw [wide_ge (by omega)] at hk;cases hk
   have hrd:∀ i,i∈Region.ready .any ops (wide l r)→i<N∧i∈Region.ready .any fr l:=fun i hi=>by
    obtain ⟨g1,g2,g3⟩:=ready_needs.1 hi;rcases Nat.lt_or_ge i N with hi'|hi'
    ·refine ⟨hi',ready_needs.2 ⟨by rw [wide_lt true (by omega)] at g1;exact g1,by omega,fun e he=>?_⟩⟩;rw [hneed i hi'] at he;have hlt:e<i:=(hA i (by omega)).1 e he;have:=g3 e he;rw [wide_lt false (by omega)] at this;exact this
    ·exfalso;have hall:∀ k,k<N→(wide l r).getD k false=true:=fun k hk=>reach_listed hcw (N+r) i k g3 (by have:=hR (i-N) (by omega) k hk;rw [show N+(i-N)=i by omega] at this;exact this);obtain ⟨q1,-,-⟩:=ready_needs.1 h1;have:=hall i0 hi0;rw [wide_lt false (by omega)] at this;simp only [Array.getD_eq_getD_getElem?,Array.getElem?_eq_getElem (show i0<l.size by omega),Option.getD_some] at this q1;rw [q1] at this;cases this
   have hin:i0∈Region.ready .any ops (wide l r):=by
    obtain ⟨q1,-,q3⟩:=ready_needs.1 h1;refine ready_needs.2 ⟨by rw [wide_lt true (by omega)];exact q1,by omega,fun e he=>?_⟩;have hlt:e<i0:=(hA i0 (by omega)).1 e he;rw [wide_lt false (by omega)];exact q3 e (by rw [hneed i0 hi0];exact he)
   rw [show f+1+r=(f+r)+1 by omega];refine ⟨fun h0=>(by rw [h0] at hin;cases hin),fun i hi=>?_⟩;obtain ⟨hiN,hi'⟩:=hrd i hi;have ho:ops[i]?=some ops[i]:=Array.getElem?_eq_getElem (show i<ops.size by omega);refine wpOp_front ((hpre i hiN).trans ho) ho (fun g b hgd=>?_) (fun a' w' h'=>?_) (h.2 i hi')
   ·have:=(hA i (by omega)).2;rw [ho] at this;simp only [Option.map_some,Option.getD_some,hgd,decide_eq_true_eq] at this;exact hpre g (by omega)
   ·rw [wide_set (by omega)];refine ih _ a' w' (by simp [hl]) ?_ h';intro k hk e he;obtain ⟨q1,-,q3⟩:=ready_needs.1 hi';by_cases hki:i=k
    ·subst hki;exact getD_set_true (q3 e he)
    ·rw [getD_set_ne false hki] at hk;exact getD_set_true (hc k hk e he)
theorem wp_region_front {id:Nat} {a:Act} {w:World} (N r:Nat) (fr:Array Oper) (S:World→Prop) (hm:P.follows .mixedOrders=true) (hs:splits ops N r=true) (hfr:fr=(ops.toList.take N).toArray) (hS:S w.drew)
  (h:S w.drew→wpAnyH P .any fr (Qfr Q (wpAny P .any ops Q r (mask N r))) S N (Array.replicate N false) a w.drew):(Code.region id ops true).wp P Q a w:=by
 refine wp_region_any hm ?_;have hs':=hs;unfold splits at hs;simp only [Bool.and_eq_true,beq_iff_eq] at hs;have hM:=hs.1.1;have hsz:fr.size=N:=by rw [hfr];simp;omega
 have hz:=wpAny_split (P:=P) (Q:=Q) hs' hsz (fun i hi=>by
  rw [hfr,List.getElem?_toArray,List.getElem?_take];simp [hi]) N (Array.replicate N false) a w.drew (by simp) (fun k hk=>by
   rw [Array.getD_eq_getD_getElem?,Array.getElem?_replicate] at hk;split at hk<;>cases hk) (wpAny_of_held _ _ _ _ (h hS))
 rw [hM];have e:wide (Array.replicate N false) r=Array.replicate (N+r) false:=by
  unfold wide;rw [Array.replicate_append_replicate]
 rw [e] at hz;exact hz
theorem wp_region_gather {id:Nat} {a:Act} {w:World} (N r:Nat) (mk:(Nat→Value)→Act) (f0:Nat→Value) (V:Nat→Value→World→Prop) (D:Nat→Nat→Value→Value→Prop) (S:World→Prop) (R:World→World→Prop) (hm:P.follows .mixedOrders=true) (hs:splits ops N r=true) (ha:mk f0=a) (hS:S w.drew) (hV:∀ j v w w',V j v w→R w w'→V j v w')
  (hstep:∀ i,i<N→∀ (f:Nat→Value) (w:World) (K:Act→World→Prop),S w→(∀ j∈needs ops i,V j (f j) w)→(∀ v w',S w'→R w w'→V i v w'→(∀ j u,V j u w→D i j v u)→K (mk (upd f i v)) w')→wpOp P ops Q i K (mk f) w)
  (hend:∀ (f:Nat→Value) (w:World),S w→(∀ i,i<N→V i (f i) w)→(∀ i j,i<N→j<N→i≠j→D i j (f i) (f j)∨D j i (f j) (f i))→wpAny P .any ops Q r (mask N r) (mk f) w):(Code.region id ops true).wp P Q a w:=by
 have hs':=hs;unfold splits at hs;simp only [Bool.and_eq_true,beq_iff_eq,List.all_eq_true,List.mem_range,decide_eq_true_eq] at hs;obtain ⟨⟨hM,hA⟩,-⟩:=hs;have hsz:((ops.toList.take N).toArray).size=N:=by simp;omega
 have hpre:∀ i,i<N→((ops.toList.take N).toArray)[i]?=ops[i]?:=fun i hi=>by
  rw [List.getElem?_toArray,List.getElem?_take];simp [hi]
 have hneed:∀ i,i<N→needs ((ops.toList.take N).toArray) i=needs ops i:=fun i hi=>by unfold needs;rw [hpre i hi]
 refine wp_region_any hm ?_;have hz:=wpAny_split (P:=P) (Q:=Q) hs' hsz hpre N (Array.replicate N false) a w.drew (by simp) (fun k hk=>by
  rw [Array.getD_eq_getD_getElem?,Array.getElem?_replicate] at hk;split at hk<;>cases hk) (by
   rw [← ha];refine wpAny_gather mk V D S R (fun i hi k hk=>?_) hV (fun i hi f w K h1 h2 h3=>?_) (fun f w h1 h2 h3=>?_) N (Array.replicate N false) f0 w.drew (by simp;omega) ?_ hS (fun i hi hl=>?_) (fun i j hi hj hne hl=>?_)
   ·rw [hsz] at hi;rw [hneed i hi] at hk;exact (hA i (by omega)).1 k hk
   ·rw [hsz] at hi;rw [hneed i hi] at h2;have h4:=hstep i hi f w K h1 h2 h3;have ho:ops[i]?=some ops[i]:=Array.getElem?_eq_getElem (show i<ops.size by omega);refine wpOp_back ((hpre i hi).trans ho) ho (fun g b hgd=>?_) h4;have:=(hA i (by omega)).2;rw [ho] at this;simp only [Option.map_some,Option.getD_some,hgd,decide_eq_true_eq] at this;exact hpre g (by omega)
   ·rw [hsz] at h2 h3;exact hend f w h1 h2 h3
   ·have:=List.countP_le_length (p:=fun i=>!(Array.replicate N false).getD i false) (l:=List.range ((ops.toList.take N).toArray).size);rw [List.length_range,hsz] at this;rw [hsz];exact this
   ·rw [Array.getD_eq_getD_getElem?,Array.getElem?_replicate] at hl;split at hl<;>cases hl
   ·rw [Array.getD_eq_getD_getElem?,Array.getElem?_replicate] at hl;split at hl<;>cases hl)
 rw [hM];have e:wide (Array.replicate N false) r=Array.replicate (N+r) false:=by
  unfold wide;rw [Array.replicate_append_replicate]
 rw [e] at hz;exact hz
end
end Go.Proofs.YtjajigkacccdgaaGreat
namespace Go.Proofs.YtjajigkacccdgaaGreat
open Go.RowKit
open Wd
def Vr:List (Value→World→Prop)→Nat→Value→World→Prop
 | [],_,_,_=>True
 | p :: _,0,v,w=>p v w
 | _ :: l,j+1,v,w=>Vr l j v w
def Stay (p:Value→World→Prop):Prop:=∀ v w w',p v w→Kp w w'→p v w'
theorem Vr.keep:∀ {l:List (Value→World→Prop)} (_:∀ p∈l,Stay p) (j:Nat) (v:Value) (w w':World),Vr l j v w→Kp w w'→Vr l j v w'
 | [],_,_,_,_,_,_,_=>trivial
 | p :: l,h,0,v,w,w',hv,hk=>h p (List.mem_cons_self ..) v w w' hv hk
 | _ :: l,h,j+1,v,w,w',hv,hk=>Vr.keep (l:=l) (fun p hp=>h p (List.mem_cons_of_mem _ hp)) j v w w' hv hk
def Vis (x v:Value) (_:World):Prop:=v=x
def Vz (z:Int) (v:Value) (w:World):Prop:=∃ A k c,v=.agg #[.bool (decide (z<0)),.slice A k c]∧ZK w (decide (z<0)) A k z
def Vn (n:Nat) (v:Value) (w:World):Prop:=∃ A k c,v=.agg #[.bool false,.slice A k c]∧ZK w false A k (n:Int)
def Vb (W:World) (t:TypeId) (cs:Array Value) (v:Value) (w:World):Prop:=∃ g,v=.pointer (some ⟨g,0,none⟩)∧Blk w g t cs∧W.heap.size≤g
theorem Vis.stay (x:Value):Stay (Vis x):=fun _ _ _ h _=>h
theorem Vz.stay (z:Int):Stay (Vz z):=fun _ _ _ ⟨A,k,c,h1,h2⟩ hk=>⟨A,k,c,h1,h2.below hk⟩
theorem Vn.stay (n:Nat):Stay (Vn n):=fun _ _ _ ⟨A,k,c,h1,h2⟩ hk=>⟨A,k,c,h1,h2.below hk⟩
theorem Vb.stay (W:World) (t:TypeId) (cs:Array Value):Stay (Vb W t cs):=fun _ _ _ ⟨g,h1,h2,h3⟩ hk=>⟨g,h1,Kp.blk hk h2,h3⟩
theorem call_via {P:Program} {f:FuncId} {args args':Array Value} {w:World} {R:Ending→World→Prop} (h:Calls P f args w R) (e:args'=args):Calls P f args' w R:=e ▸ h
theorem kp_new {cur v:World} {o:Obj} (h:cur.alloc o=v):Kp cur v:=h ▸ (Kp.refl cur).alloc o
section
variable {cur v W:World} {g g':Nat} {t t':TypeId} {x0 x1 a b:Value} {cs':Array Value}
theorem blk_st (hv:(cur.setCell ⟨g,0,none⟩ a).setCell ⟨g,1,none⟩ b=v) (h:Blk cur g t #[x0,x1]):Blk v g t #[a,b]:=hv ▸ h.set2 a b
theorem blk_stf (hv:(cur.setCell ⟨g,0,none⟩ a).setCell ⟨g,1,none⟩ b=v) (h:Blk cur g' t' cs') (hne:g≠g'):Blk v g' t' cs' :=
 hv ▸ (h.far (p:=⟨g,0,none⟩) hne.symm a).far (p:=⟨g,1,none⟩) hne.symm b
theorem kp_st (hv:(cur.setCell ⟨g,0,none⟩ a).setCell ⟨g,1,none⟩ b=v) (h:Kp W cur) (hg:W.heap.size≤g):Kp W v :=
 hv ▸ (Below.setCell h (p:=⟨g,0,none⟩) hg a).setCell (p:=⟨g,1,none⟩) hg b
theorem zk_st {y0:Bool} {y1:Option Addr} {k c:Nat} {e0:Bool} {e1:Option Addr} {e2 e3:Nat} {s:Bool} {A:Option Addr} {n:Nat} {z:Int} (hv:(cur.setCell ⟨g,0,none⟩ (.bool e0)).setCell ⟨g,1,none⟩ (.slice e1 e2 e3)=v) (h:Blk cur g t #[.bool y0,.slice y1 k c]) (hZ:ZK cur s A n z):ZK v s A n z:=by
 obtain ⟨l,h1,h2⟩:=hZ;subst hv;refine ⟨l,?_,h2⟩;have n0:NoInt #[.bool y0,.slice y1 k c]:=by
  intro i x k hi;rcases i with _|_|i<;>simp at hi
 exact (h1.setQ h n0 0 _).setQ (h.set 0 (.bool e0)) (n0.set 0 (.bool e0) (by simp)) 1 _
end
theorem raddq_s {s:Nat} (hs:s≤1000000000) (an an' bn bn':Bool) (A A' B B':Option Addr) (n c n' c' m d m' d':Nat) (qa qb:Rat) (w:World) (ha:QS s w an A n c an' A' n' c' qa) (hb:QS s w bn B m d bn' B' m' d' qb) :
  Calls Tryz.prog 78 #[.agg #[.bool an,.slice A n c,.bool an',.slice A' n' c'],.agg #[.bool bn,.slice B m d,.bool bn',.slice B' m' d']] w (RetQ w (qa+qb)):=by
 obtain ⟨na,da,hQ,h1,h2,hq,h0⟩:=ha.qz (by omega);obtain ⟨nb,db,hR,g1,g2,hr,g0⟩:=hb.qz (by omega);have LEN1:=Hj (wb_half h1 (by omega));have LEN6:=Hj (wb_half g1 (by omega));have LEN8:=Hj (wb_half h2 (by omega));have LEN3:=Hj (wb_half g2 (by omega));have LEN24:=LEN8;have LEN26:=LEN3;have h3:=Nat.mul_lt_mul'' h1 g2;have h4:=Nat.mul_lt_mul'' g1 h2;have h5:=wb_mul s s;have LEN4:=Hj (show (hd (qnum na da*((qden db).natAbs:Int)).natAbs).length≤6000000000 by rw [Int.natAbs_mul,Int.natAbs_natCast];exact wb_mul_half h1 g2 hs);have LEN9:=Hj (show (hd (qnum nb db*((qden da).natAbs:Int)).natAbs).length≤6000000000 by rw [Int.natAbs_mul,Int.natAbs_natCast];exact wb_mul_half g1 h2 hs);have LEN22:=Hj (show (hd (qnum na da*((qden db).natAbs:Int)+qnum nb db*((qden da).natAbs:Int)).natAbs).length≤6000000000 by
  refine wb_half (s:=s+s+1) (Nat.lt_of_le_of_lt (Int.natAbs_add_le _ _) ?_) (by omega);rw [Int.natAbs_mul,Int.natAbs_natCast,Int.natAbs_mul,Int.natAbs_natCast];omega)
 have LEN27:=Hj (show (hd ((qden da).natAbs*(qden db).natAbs)).length≤6000000000 from wb_mul_half h2 g2 hs);have hv0:(qden da).natAbs*(qden db).natAbs≠0:=Nat.mul_ne_zero h0 g0;have hy:qa+qb=mkRat (qnum na da*((qden db).natAbs:Int)+qnum nb db*((qden da).natAbs:Int)) ((qden da).natAbs*(qden db).natAbs):=by rw [hq,hr,Rat.mkRat_add_mkRat _ _ h0 g0]
 generalize qa+qb=y at *;clear ha hb h1 h2 g1 g2 hq hr h0 g0 h3 h4 h5;go_enter Tryz.func78,Tryz.ntmps78
 go_wp2_with fail
 obtain ⟨hB0,hB1,hB2,hBW,hsz⟩:=pre3 w 42 #[.bool an,.slice A n c,.bool an',.slice A' n' c'] 42 #[.bool bn,.slice B m d,.bool bn',.slice B' m' d'] 42 #[.bool false,.slice none 0 0,.bool false,.slice none 0 0];generalize ((w.alloc (.cells #[.bool an,.slice A n c,.bool an',.slice A' n' c'] 42)).alloc (.cells #[.bool bn,.slice B m d,.bool bn',.slice B' m' d'] 42)).alloc (.cells #[.bool false,.slice none 0 0,.bool false,.slice none 0 0] 42)=W at *;have HSZ:=Hj hsz;clear hsz;have HBW:=Hj hBW;have TN:=Hj (fun W' (hW:Kp W W')=>rnum_z an an' A A' n c n' c' na da W' (hQ.below (HBW.out.trans (Below.mono hW HBW.out.size))));have TD:=Hj (fun W' (hW:Kp W W')=>rden_z an an' A A' n c n' c' na da W' (hQ.below (HBW.out.trans (Below.mono hW HBW.out.size))));have TN2:=Hj (fun W' (hW:Kp W W')=>rnum_z bn bn' B B' m d m' d' nb db W' (hR.below (HBW.out.trans (Below.mono hW HBW.out.size))));have TD2:=Hj (fun W' (hW:Kp W W')=>rden_z bn bn' B B' m d m' d' nb db W' (hR.below (HBW.out.trans (Below.mono hW HBW.out.size))));have TM:=Hj (fun W' (s t:Bool) (C D:Option Addr) (j e j' e':Nat) (hC:ZK W' s C j (qnum na da)) (hD:ZK W' t D j' ((qden db).natAbs:Int))=>rmul_z s t C D j e j' e' (qnum na da) ((qden db).natAbs:Int) W' hC hD);have TM2:=Hj (fun W' (s t:Bool) (C D:Option Addr) (j e j' e':Nat) (hC:ZK W' s C j (qnum nb db)) (hD:ZK W' t D j' ((qden da).natAbs:Int))=>rmul_z s t C D j e j' e' (qnum nb db) ((qden da).natAbs:Int) W' hC hD);have TM3:=Hj (fun W' (C D:Option Addr) (j e j' e':Nat) (hC:ZK W' false C j ((qden da).natAbs:Int)) (hD:ZK W' false D j' ((qden db).natAbs:Int))=>(rmul_z false false C D j e j' e' ((qden da).natAbs:Int) ((qden db).natAbs:Int) W' hC hD).mono fun _ _ h=>RetZ.toN (v:=(qden da).natAbs*(qden db).natAbs) (by rw [Int.natCast_mul];exact h));generalize qnum na da*((qden db).natAbs:Int)=z4 at *;generalize qnum nb db*((qden da).natAbs:Int)=z9 at *;have TA:=Hj (fun W' (s t:Bool) (C D:Option Addr) (j e j' e':Nat) (hC:ZK W' s C j z4) (hD:ZK W' t D j' z9)=>radd_z s t C D j e j' e' z4 z9 W' hC hD);have TO:=Hj (fun W' (s:Bool) (C D:Option Addr) (j e j' e':Nat) (hC:ZK W' s C j (z4+z9)) (hD:ZK W' false D j' ((((qden da).natAbs*(qden db).natAbs:Nat)):Int))=>rover_z s C D j e j' e' (z4+z9) ((qden da).natAbs*(qden db).natAbs) W' hC hD hv0);rw [← hy] at TO;generalize z4+z9=z22 at *;generalize (qden da).natAbs*(qden db).natAbs=v27 at *;generalize qnum na da=z1 at *;generalize qnum nb db=z6 at *;generalize (qden da).natAbs=v8 at *;generalize (qden db).natAbs=v3 at *;have HS:=Hj (show ∀ w',Kp W w'→(w'.cell? ⟨w.heap.size,0,none⟩=some (.bool an)∧w'.cell? ⟨w.heap.size,1,none⟩=some (.slice A n c)∧w'.cell? ⟨w.heap.size,2,none⟩=some (.bool an')∧w'.cell? ⟨w.heap.size,3,none⟩=some (.slice A' n' c')∧w'.cell? ⟨w.heap.size+1,0,none⟩=some (.bool bn)∧w'.cell? ⟨w.heap.size+1,1,none⟩=some (.slice B m d)∧w'.cell? ⟨w.heap.size+1,2,none⟩=some (.bool bn')∧w'.cell? ⟨w.heap.size+1,3,none⟩=some (.slice B' m' d'))∧Kp W w' from fun w' hk=>⟨⟨(hk.blk hB0).cell 0,(hk.blk hB0).cell 1,(hk.blk hB0).cell 2,(hk.blk hB0).cell 3,(hk.blk hB1).cell 0,(hk.blk hB1).cell 1,(hk.blk hB1).cell 2,(hk.blk hB1).cell 3⟩,hk⟩);have HB2:=Hj hB2;have HB0:=Hj hB0;have HB1:=Hj hB1;clear hQ hR hy hv0 hB0 hB1 hB2 hBW
 go_upto_region 1 with fail
 go_cut [5,6] (fun s t wx=>∃ g5 g6 A4 k4 c4 A9 k9 c9,s=.pointer (some ⟨g5,0,none⟩)∧t=.pointer (some ⟨g6,0,none⟩)∧Hid (Kp W wx∧Blk wx g5 40 #[.bool (decide (z4<0)),.slice A4 k4 c4]∧ZK wx (decide (z4<0)) A4 k4 z4∧Blk wx g6 40 #[.bool (decide (z9<0)),.slice A9 k9 c9]∧ZK wx (decide (z9<0)) A9 k9 z9))
 case first =>
  refine wp_region_gather 12 2 (fun f=>⟨#[Value.agg #[Value.bool an,Value.slice A n c,Value.bool an',Value.slice A' n' c'],Value.agg #[Value.bool bn,Value.slice B m d,Value.bool bn',Value.slice B' m' d'],.pointer (some ⟨w.heap.size,0,none⟩),.pointer (some ⟨w.heap.size+1,0,none⟩),.pointer (some ⟨w.heap.size+1+1,0,none⟩),f 10,f 11,f 0,f 1,f 2,f 3,f 4,f 5,f 6,f 7,f 8,f 9,undef,undef,undef,undef,undef,undef,undef,undef,undef],[]⟩) (fun _=>undef) (Vr [Vis (Value.agg #[Value.bool an,Value.slice A n c,Value.bool an',Value.slice A' n' c']),Vz z1,Vis (Value.agg #[Value.bool bn,Value.slice B m d,Value.bool bn',Value.slice B' m' d']),Vn v3,Vz z4,Vis (Value.agg #[Value.bool bn,Value.slice B m d,Value.bool bn',Value.slice B' m' d']),Vz z6,Vis (Value.agg #[Value.bool an,Value.slice A n c,Value.bool an',Value.slice A' n' c']),Vn v8,Vz z9,Vb W 40 #[.bool false,.slice none 0 0],Vb W 40 #[.bool false,.slice none 0 0]]) (fun i j v u=>(i=10∨i=11)→(j=10∨j=11)→v≠u) (fun w'=>(w'.cell? ⟨w.heap.size,0,none⟩=some (.bool an)∧w'.cell? ⟨w.heap.size,1,none⟩=some (.slice A n c)∧w'.cell? ⟨w.heap.size,2,none⟩=some (.bool an')∧w'.cell? ⟨w.heap.size,3,none⟩=some (.slice A' n' c')∧w'.cell? ⟨w.heap.size+1,0,none⟩=some (.bool bn)∧w'.cell? ⟨w.heap.size+1,1,none⟩=some (.slice B m d)∧w'.cell? ⟨w.heap.size+1,2,none⟩=some (.bool bn')∧w'.cell? ⟨w.heap.size+1,3,none⟩=some (.slice B' m' d'))∧Kp W w') Kp (by kernel_rfl) (by kernel_rfl) rfl (HS.out _ (Kp.drew (Kp.refl W))) (Vr.keep (by simp only [List.forall_mem_cons];exact ⟨Vis.stay _,Vz.stay _,Vis.stay _,Vn.stay _,Vz.stay _,Vis.stay _,Vz.stay _,Vis.stay _,Vn.stay _,Vz.stay _,Vb.stay _ _ _,Vb.stay _ _ _,fun _ h=>by cases h⟩)) ?step ?fin
  case step =>
   intro i hi f w' K hS hn hK;rcases (show i=0∨i=1∨i=2∨i=3∨i=4∨i=5∨i=6∨i=7∨i=8∨i=9∨i=10∨i=11 by omega) with rfl|rfl|rfl|rfl|rfl|rfl|rfl|rfl|rfl|rfl|rfl|rfl
   ·refine wpOp_step rfl (fun K' hK'=>?_);obtain ⟨⟨a0,a1,a2,a3,a4,a5,a6,a7⟩,hkp⟩:=hS;go_simp;exact hK' _ _ (hK _ w' (HS.out _ hkp) (Kp.refl w') (show Vis (Value.agg #[Value.bool an,Value.slice A n c,Value.bool an',Value.slice A' n' c']) (Value.agg #[Value.bool an,Value.slice A n c,Value.bool an',Value.slice A' n' c']) w' from rfl) (fun _ _ _ h=>absurd h (by decide)))
   ·have E0:Hid (f 0=Value.agg #[Value.bool an,Value.slice A n c,Value.bool an',Value.slice A' n' c']):=Hj (hn 0 (List.mem_of_elem_eq_true (by kernel_rfl)));refine wpOp_step rfl (fun K' hK'=>?_);have HK':=Hj hK';clear hK';obtain ⟨-,hkp⟩:=hS;go_simp;refine (call_via (TN.out _ hkp) (by rw [E0.out])).mono ?_;rintro e v1 ⟨A1,k1,c1,rfl,-,hW1,-,hb1⟩
    (try (go_wp2_with fail))
    exact HK'.out _ _ (hK _ v1 (HS.out _ (Kp.trans hkp hb1)) hb1 (show Vz z1 _ _ from ⟨A1,k1,c1,rfl,zk_of hW1 LEN1.out⟩) (fun _ _ _ h=>absurd h (by decide)))
   ·refine wpOp_step rfl (fun K' hK'=>?_);obtain ⟨⟨a0,a1,a2,a3,a4,a5,a6,a7⟩,hkp⟩:=hS;go_simp;exact hK' _ _ (hK _ w' (HS.out _ hkp) (Kp.refl w') (show Vis (Value.agg #[Value.bool bn,Value.slice B m d,Value.bool bn',Value.slice B' m' d']) (Value.agg #[Value.bool bn,Value.slice B m d,Value.bool bn',Value.slice B' m' d']) w' from rfl) (fun _ _ _ h=>absurd h (by decide)))
   ·have E2:Hid (f 2=Value.agg #[Value.bool bn,Value.slice B m d,Value.bool bn',Value.slice B' m' d']):=Hj (hn 2 (List.mem_of_elem_eq_true (by kernel_rfl)));refine wpOp_step rfl (fun K' hK'=>?_);have HK':=Hj hK';clear hK';obtain ⟨-,hkp⟩:=hS;go_simp;refine (call_via (TD2.out _ hkp) (by rw [E2.out])).mono ?_;rintro e v1 ⟨A1,k1,c1,rfl,-,hW1,-,hb1⟩
    (try (go_wp2_with fail))
    exact HK'.out _ _ (hK _ v1 (HS.out _ (Kp.trans hkp hb1)) hb1 (show Vn v3 _ _ from ⟨A1,k1,c1,rfl,zk_ofN hW1 LEN3.out⟩) (fun _ _ _ h=>absurd h (by decide)))
   ·obtain ⟨A4,k4,c4,e4,hZ4⟩:=(show Vz z1 (f 1) w' from hn 1 (List.mem_of_elem_eq_true (by kernel_rfl)));obtain ⟨A5,k5,c5,e5,hZ5⟩:=(show Vn v3 (f 3) w' from hn 3 (List.mem_of_elem_eq_true (by kernel_rfl)));have E4:=Hj e4;have E5:=Hj e5;clear e4 e5;refine wpOp_step rfl (fun K' hK'=>?_);have HK':=Hj hK';clear hK';obtain ⟨-,hkp⟩:=hS;go_simp;refine (call_via (TM.out _ _ _ _ _ _ c4 _ c5 hZ4 hZ5) (by rw [E4.out,E5.out])).mono ?_;rintro e v1 ⟨A1,k1,c1,rfl,-,hW1,-,hb1⟩
    (try (go_wp2_with fail))
    exact HK'.out _ _ (hK _ v1 (HS.out _ (Kp.trans hkp hb1)) hb1 (show Vz z4 _ _ from ⟨A1,k1,c1,rfl,zk_of hW1 LEN4.out⟩) (fun _ _ _ h=>absurd h (by decide)))
   ·refine wpOp_step rfl (fun K' hK'=>?_);obtain ⟨⟨a0,a1,a2,a3,a4,a5,a6,a7⟩,hkp⟩:=hS;go_simp;exact hK' _ _ (hK _ w' (HS.out _ hkp) (Kp.refl w') (show Vis (Value.agg #[Value.bool bn,Value.slice B m d,Value.bool bn',Value.slice B' m' d']) (Value.agg #[Value.bool bn,Value.slice B m d,Value.bool bn',Value.slice B' m' d']) w' from rfl) (fun _ _ _ h=>absurd h (by decide)))
   ·have E5:Hid (f 5=Value.agg #[Value.bool bn,Value.slice B m d,Value.bool bn',Value.slice B' m' d']):=Hj (hn 5 (List.mem_of_elem_eq_true (by kernel_rfl)));refine wpOp_step rfl (fun K' hK'=>?_);have HK':=Hj hK';clear hK';obtain ⟨-,hkp⟩:=hS;go_simp;refine (call_via (TN2.out _ hkp) (by rw [E5.out])).mono ?_;rintro e v1 ⟨A1,k1,c1,rfl,-,hW1,-,hb1⟩
    (try (go_wp2_with fail))
    exact HK'.out _ _ (hK _ v1 (HS.out _ (Kp.trans hkp hb1)) hb1 (show Vz z6 _ _ from ⟨A1,k1,c1,rfl,zk_of hW1 LEN6.out⟩) (fun _ _ _ h=>absurd h (by decide)))
   ·refine wpOp_step rfl (fun K' hK'=>?_);obtain ⟨⟨a0,a1,a2,a3,a4,a5,a6,a7⟩,hkp⟩:=hS;go_simp;exact hK' _ _ (hK _ w' (HS.out _ hkp) (Kp.refl w') (show Vis (Value.agg #[Value.bool an,Value.slice A n c,Value.bool an',Value.slice A' n' c']) (Value.agg #[Value.bool an,Value.slice A n c,Value.bool an',Value.slice A' n' c']) w' from rfl) (fun _ _ _ h=>absurd h (by decide)))
   ·have E7:Hid (f 7=Value.agg #[Value.bool an,Value.slice A n c,Value.bool an',Value.slice A' n' c']):=Hj (hn 7 (List.mem_of_elem_eq_true (by kernel_rfl)));refine wpOp_step rfl (fun K' hK'=>?_);have HK':=Hj hK';clear hK';obtain ⟨-,hkp⟩:=hS;go_simp;refine (call_via (TD.out _ hkp) (by rw [E7.out])).mono ?_;rintro e v1 ⟨A1,k1,c1,rfl,-,hW1,-,hb1⟩
    (try (go_wp2_with fail))
    exact HK'.out _ _ (hK _ v1 (HS.out _ (Kp.trans hkp hb1)) hb1 (show Vn v8 _ _ from ⟨A1,k1,c1,rfl,zk_ofN hW1 LEN8.out⟩) (fun _ _ _ h=>absurd h (by decide)))
   ·obtain ⟨A4,k4,c4,e4,hZ4⟩:=(show Vz z6 (f 6) w' from hn 6 (List.mem_of_elem_eq_true (by kernel_rfl)));obtain ⟨A5,k5,c5,e5,hZ5⟩:=(show Vn v8 (f 8) w' from hn 8 (List.mem_of_elem_eq_true (by kernel_rfl)));have E4:=Hj e4;have E5:=Hj e5;clear e4 e5;refine wpOp_step rfl (fun K' hK'=>?_);have HK':=Hj hK';clear hK';obtain ⟨-,hkp⟩:=hS;go_simp;refine (call_via (TM2.out _ _ _ _ _ _ c4 _ c5 hZ4 hZ5) (by rw [E4.out,E5.out])).mono ?_;rintro e v1 ⟨A1,k1,c1,rfl,-,hW1,-,hb1⟩
    (try (go_wp2_with fail))
    exact HK'.out _ _ (hK _ v1 (HS.out _ (Kp.trans hkp hb1)) hb1 (show Vz z9 _ _ from ⟨A1,k1,c1,rfl,zk_of hW1 LEN9.out⟩) (fun _ _ _ h=>absurd h (by decide)))
   ·refine wpOp_step rfl (fun K' hK'=>?_);obtain ⟨-,hkp⟩:=hS;go_simp;have hb:=kp_new (cur:=w') (o:=.cells #[.bool false,.slice none 0 0] 40) rfl;exact hK' _ _ (hK _ _ (HS.out _ (Kp.trans hkp hb)) hb (show Vb W _ _ _ _ from ⟨_,rfl,Blk.new _ _ _,Below.size hkp⟩) (fun j u hu _ hj=>by
     have hu':Vb W 40 #[.bool false,.slice none 0 0] u w':=by rcases hj with rfl|rfl<;>exact hu
     obtain ⟨g,rfl,hg,-⟩:=hu';have:=hg.lt;intro h
     (try simp at h)
     (try omega)))
   ·refine wpOp_step rfl (fun K' hK'=>?_);obtain ⟨-,hkp⟩:=hS;go_simp;have hb:=kp_new (cur:=w') (o:=.cells #[.bool false,.slice none 0 0] 40) rfl;exact hK' _ _ (hK _ _ (HS.out _ (Kp.trans hkp hb)) hb (show Vb W _ _ _ _ from ⟨_,rfl,Blk.new _ _ _,Below.size hkp⟩) (fun j u hu _ hj=>by
     have hu':Vb W 40 #[.bool false,.slice none 0 0] u w':=by rcases hj with rfl|rfl<;>exact hu
     obtain ⟨g,rfl,hg,-⟩:=hu';have:=hg.lt;intro h
     (try simp at h)
     (try omega)))
  case fin =>
   intro f w' hS hv hd;obtain ⟨A4,k4,c4,e4,hZ4⟩:=(show Vz z4 (f 4) w' from hv 4 (by omega));obtain ⟨A9,k9,c9,e9,hZ9⟩:=(show Vz z9 (f 9) w' from hv 9 (by omega));obtain ⟨g5,e10,B10,hg10⟩:=(show Vb W _ _ (f 10) w' from hv 10 (by omega));obtain ⟨g6,e11,B11,hg11⟩:=(show Vb W _ _ (f 11) w' from hv 11 (by omega));have hne:g5≠g6:=by
    rintro rfl;rcases hd 10 11 (by omega) (by omega) (by omega) with h|h
    ·exact h (.inl rfl) (.inr rfl) (e10.trans e11.symm)
    ·exact h (.inr rfl) (.inl rfl) (e11.trans e10.symm)
   have hp:=hS.2;clear hS hv hd;simp only [e4,e9,e10,e11];refine wpAny_ready (rs:=[12]) (by kernel_rfl) (by simp) ?_;refine AllReady.cons rfl (fun K hK=>?_) AllReady.nil
   (try simp only [p1,p2,p3])
   obtain ⟨p0,p1,f0,f1⟩:=B10.two;go_simp;refine hK _ _ ?_;clear hK K
   (try simp only [Act.put,p1,p2,p3,p4,p5,p6])
   generalize hv:World.setCell (World.setCell _ _ _) _ _=v12;have D10:=blk_st hv B10;have D11:=blk_stf hv B11 hne;have hp12:=kp_st hv hp hg10;have hZ4:=zk_st hv B10 hZ4;have hZ9:=zk_st hv B10 hZ9;clear p0 p1 f0 f1 B10 B11 hp hv;refine wpAny_ready (rs:=[13]) (by kernel_rfl) (by simp) ?_;refine AllReady.cons rfl (fun K hK=>?_) AllReady.nil
   (try simp only [p1,p2,p3])
   obtain ⟨p0,p1,f0,f1⟩:=D11.two;go_simp;refine hK _ _ ?_;clear hK K
   (try simp only [Act.put,p1,p2,p3,p4,p5,p6])
   generalize hv:World.setCell (World.setCell _ _ _) _ _=v13;have E11:=blk_st hv D11;have E10:=blk_stf hv D10 hne.symm;have hp13:=kp_st hv hp12 hg11;have hZ4:=zk_st hv D11 hZ4;have hZ9:=zk_st hv D11 hZ9;refine wpAny_done (by kernel_rfl) ?_ _;clear p0 p1 f0 f1 D10 D11 hv hp12;have HF:=Hj (And.intro hp13 (And.intro E10 (And.intro hZ4 (And.intro E11 hZ9))));clear hp13 E10 hZ4 E11 hZ9
   (try go_wp2_with fail)
   go_meet
   exact ⟨_,_,_,_,_,_,_,_,rfl,rfl,HF⟩
 case rest =>
  obtain ⟨g5,g6,A4,k4,c4,A9,k9,c9,rfl,rfl,HV⟩:=hcut;generalize wc=V at *;have E10:=HV.out.2.1;have E11:=HV.out.2.2.2.1;have hC0:=Kp.blk HV.out.1 HB0.out;have hC1:=Kp.blk HV.out.1 HB1.out;have HS2:=Hj (show ∀ w',Kp V w'→(w'.cell? ⟨g5,0,none⟩=some (.bool (decide (z4<0)))∧w'.cell? ⟨g5,1,none⟩=some (.slice A4 k4 c4)∧w'.cell? ⟨g6,0,none⟩=some (.bool (decide (z9<0)))∧w'.cell? ⟨g6,1,none⟩=some (.slice A9 k9 c9)∧w'.cell? ⟨w.heap.size,0,none⟩=some (.bool an)∧w'.cell? ⟨w.heap.size,1,none⟩=some (.slice A n c)∧w'.cell? ⟨w.heap.size,2,none⟩=some (.bool an')∧w'.cell? ⟨w.heap.size,3,none⟩=some (.slice A' n' c')∧w'.cell? ⟨w.heap.size+1,0,none⟩=some (.bool bn)∧w'.cell? ⟨w.heap.size+1,1,none⟩=some (.slice B m d)∧w'.cell? ⟨w.heap.size+1,2,none⟩=some (.bool bn')∧w'.cell? ⟨w.heap.size+1,3,none⟩=some (.slice B' m' d'))∧Kp V w' from fun w' hk=>⟨⟨(hk.blk E10).cell 0,(hk.blk E10).cell 1,(hk.blk E11).cell 0,(hk.blk E11).cell 1,(hk.blk hC0).cell 0,(hk.blk hC0).cell 1,(hk.blk hC0).cell 2,(hk.blk hC0).cell 3,(hk.blk hC1).cell 0,(hk.blk hC1).cell 1,(hk.blk hC1).cell 2,(hk.blk hC1).cell 3⟩,hk⟩);have HZ4:=Hj HV.out.2.2.1;have HZ9:=Hj HV.out.2.2.2.2;have HVW:=Hj HV.out.1;have HG:=Hj (Nat.lt_of_lt_of_le HB2.out.lt (Below.size HV.out.1));have HR4:=Hj ((RS4.start HB2.out).call HV.out.1);have hBW:=HBW.out;clear HS HV E10 E11 hC0 hC1 TN TN2 TM TM2
  go_upto_region 2 with fail
  refine wp_region_front 9 1 _ (fun w'=>(w'.cell? ⟨g5,0,none⟩=some (.bool (decide (z4<0)))∧w'.cell? ⟨g5,1,none⟩=some (.slice A4 k4 c4)∧w'.cell? ⟨g6,0,none⟩=some (.bool (decide (z9<0)))∧w'.cell? ⟨g6,1,none⟩=some (.slice A9 k9 c9)∧w'.cell? ⟨w.heap.size,0,none⟩=some (.bool an)∧w'.cell? ⟨w.heap.size,1,none⟩=some (.slice A n c)∧w'.cell? ⟨w.heap.size,2,none⟩=some (.bool an')∧w'.cell? ⟨w.heap.size,3,none⟩=some (.slice A' n' c')∧w'.cell? ⟨w.heap.size+1,0,none⟩=some (.bool bn)∧w'.cell? ⟨w.heap.size+1,1,none⟩=some (.slice B m d)∧w'.cell? ⟨w.heap.size+1,2,none⟩=some (.bool bn')∧w'.cell? ⟨w.heap.size+1,3,none⟩=some (.slice B' m' d'))∧Kp V w') (by kernel_rfl) (by kernel_rfl) rfl (HS2.out _ (Kp.drew (Kp.refl V))) (fun hHeld=>?_);simp only [List.toList_toArray,List.take_succ_cons,List.take_zero];refine wpAnyH_take (i:=0) (v:=?v1) rfl (by kernel_rfl) (by kernel_rfl) (by kernel_rfl) (fun _ _ _ h=>h) (Or.inl ⟨by rfl,?y1⟩) (by assumption) ?r1
  case y1=>(intro w hSw;(try dsimp only at hSw);(try simp only [p1,p2,p3]);go_simp;first|done|with_reducible rfl)
  (try simp only [Act.put,p1,p2,p3,p4,p5,p6])
  refine wpAnyH_take (i:=1) (v:=?v2) rfl (by kernel_rfl) (by kernel_rfl) (by kernel_rfl) (fun _ _ _ h=>h) (Or.inl ⟨by rfl,?y2⟩) (by assumption) ?r2
  case y2=>(intro w hSw;(try dsimp only at hSw);(try simp only [p1,p2,p3]);go_simp;first|done|with_reducible rfl)
  (try simp only [Act.put,p1,p2,p3,p4,p5,p6])
  refine wpAnyH_take (i:=3) (v:=?v4) rfl (by kernel_rfl) (by kernel_rfl) (by kernel_rfl) (fun _ _ _ h=>h) (Or.inl ⟨by rfl,?y4⟩) (by assumption) ?r4
  case y4=>(intro w hSw;(try dsimp only at hSw);(try simp only [p1,p2,p3]);go_simp;first|done|with_reducible rfl)
  (try simp only [Act.put,p1,p2,p3,p4,p5,p6])
  refine wpAnyH_take (i:=5) (v:=?v6) rfl (by kernel_rfl) (by kernel_rfl) (by kernel_rfl) (fun _ _ _ h=>h) (Or.inl ⟨by rfl,?y6⟩) (by assumption) ?r6
  case y6=>(intro w hSw;(try dsimp only at hSw);(try simp only [p1,p2,p3]);go_simp;first|done|with_reducible rfl)
  (try simp only [Act.put,p1,p2,p3,p4,p5,p6])
  refine wpAnyH_ready (rs:=[2]) (by kernel_rfl) (by simp) ?_;refine AllReadyH.cons rfl (fun K hK=>?_) ?_
  ·(try simp only [p1,p2,p3])
   go_simp;have hk:=And.right ‹_∧Kp V _›;refine (TA.out _ _ _ _ _ _ _ _ _ (HZ4.out.below hk) (HZ9.out.below hk)).mono ?_;rintro e v22 ⟨A22,k22,c22,rfl,hk22,hW22,hF22,hb22⟩;have hZ22:=zk_of hW22 (LEN22.out);have hp:=Kp.trans hk hb22
   (try have hZ1:=hZ1.below hb22)
   (try have hZ3:=hZ3.below hb22)
   (try have hZ4:=hZ4.below hb22)
   (try have hZ6:=hZ6.below hb22)
   (try have hZ8:=hZ8.below hb22)
   (try have hZ9:=hZ9.below hb22)
   (try have hZ24:=hZ24.below hb22)
   (try have hZ26:=hZ26.below hb22)
   (try have hZ27:=hZ27.below hb22)
   (try have B10:=Kp.blk hb22 B10)
   (try have B11:=Kp.blk hb22 B11)
   clear hk hb22 hW22 hF22 hk22
   (try (go_wp2_with fail))
   refine hK.out _ _ ?k8 (fun hHeld8=>?n8)
   case k8=>((try dsimp only);with_reducible first|(refine HS2.out _ ?_;assumption)|(refine HS2.out _ (Kp.drew ?_);assumption)|(refine' HS2.out _ (Kp.drew (And.right ?_));rotate_left;assumption))
   clear hK K
   (try simp only [Act.put,p1,p2,p3,p4,p5,p6])
   refine wpAnyH_ready (rs:=[4]) (by kernel_rfl) (by simp) ?_;refine AllReadyH.cons rfl (fun K hK=>?_) ?_
   ·(try simp only [p1,p2,p3])
    go_simp;have hk:=And.right ‹_∧Kp V _›;refine (TD.out _ (Kp.trans HVW.out hk)).mono ?_;rintro e v24 ⟨A24,k24,c24,rfl,hk24,hW24,hF24,hb24⟩;have hZ24:=zk_ofN hW24 (LEN24.out);have hp:=Kp.trans hk hb24
    (try have hZ1:=hZ1.below hb24)
    (try have hZ3:=hZ3.below hb24)
    (try have hZ4:=hZ4.below hb24)
    (try have hZ6:=hZ6.below hb24)
    (try have hZ8:=hZ8.below hb24)
    (try have hZ9:=hZ9.below hb24)
    (try have hZ22:=hZ22.below hb24)
    (try have hZ26:=hZ26.below hb24)
    (try have hZ27:=hZ27.below hb24)
    (try have B10:=Kp.blk hb24 B10)
    (try have B11:=Kp.blk hb24 B11)
    clear hk hb24 hW24 hF24 hk24
    (try (go_wp2_with fail))
    refine hK.out _ _ ?k10 (fun hHeld10=>?n10)
    case k10=>((try dsimp only);with_reducible first|(refine HS2.out _ ?_;assumption)|(refine HS2.out _ (Kp.drew ?_);assumption)|(refine' HS2.out _ (Kp.drew (And.right ?_));rotate_left;assumption))
    clear hK K
    (try simp only [Act.put,p1,p2,p3,p4,p5,p6])
    refine wpAnyH_ready (rs:=[6]) (by kernel_rfl) (by simp) ?_;refine AllReadyH.cons rfl (fun K hK=>?_) ?_
    ·(try simp only [p1,p2,p3])
     go_simp;have hk:=And.right ‹_∧Kp V _›;refine (TD2.out _ (Kp.trans HVW.out hk)).mono ?_;rintro e v26 ⟨A26,k26,c26,rfl,hk26,hW26,hF26,hb26⟩;have hZ26:=zk_ofN hW26 (LEN26.out);have hp:=Kp.trans hk hb26
     (try have hZ1:=hZ1.below hb26)
     (try have hZ3:=hZ3.below hb26)
     (try have hZ4:=hZ4.below hb26)
     (try have hZ6:=hZ6.below hb26)
     (try have hZ8:=hZ8.below hb26)
     (try have hZ9:=hZ9.below hb26)
     (try have hZ22:=hZ22.below hb26)
     (try have hZ24:=hZ24.below hb26)
     (try have hZ27:=hZ27.below hb26)
     (try have B10:=Kp.blk hb26 B10)
     (try have B11:=Kp.blk hb26 B11)
     clear hk hb26 hW26 hF26 hk26
     (try (go_wp2_with fail))
     refine hK.out _ _ ?k12 (fun hHeld12=>?n12)
     case k12=>((try dsimp only);with_reducible first|(refine HS2.out _ ?_;assumption)|(refine HS2.out _ (Kp.drew ?_);assumption)|(refine' HS2.out _ (Kp.drew (And.right ?_));rotate_left;assumption))
     clear hK K
     (try simp only [Act.put,p1,p2,p3,p4,p5,p6])
     refine wpAnyH_ready (rs:=[7]) (by kernel_rfl) (by simp) ?_;refine AllReadyH.cons rfl (fun K hK=>?_) ?_
     ·(try simp only [p1,p2,p3])
      go_simp;have hk:=And.right ‹_∧Kp V _›;refine (TM3.out _ _ _ _ _ _ _ hZ24 hZ26).mono ?_;rintro e v27 ⟨A27,k27,c27,rfl,hk27,hW27,hF27,hb27⟩;have hZ27:=zk_ofN hW27 (LEN27.out);have hp:=Kp.trans hk hb27
      (try have hZ1:=hZ1.below hb27)
      (try have hZ3:=hZ3.below hb27)
      (try have hZ4:=hZ4.below hb27)
      (try have hZ6:=hZ6.below hb27)
      (try have hZ8:=hZ8.below hb27)
      (try have hZ9:=hZ9.below hb27)
      (try have hZ22:=hZ22.below hb27)
      (try have hZ24:=hZ24.below hb27)
      (try have hZ26:=hZ26.below hb27)
      (try have B10:=Kp.blk hb27 B10)
      (try have B11:=Kp.blk hb27 B11)
      clear hk hb27 hW27 hF27 hk27
      (try (go_wp2_with fail))
      refine hK.out _ _ ?k14 (fun hHeld14=>?n14)
      case k14=>((try dsimp only);with_reducible first|(refine HS2.out _ ?_;assumption)|(refine HS2.out _ (Kp.drew ?_);assumption)|(refine' HS2.out _ (Kp.drew (And.right ?_));rotate_left;assumption))
      clear hK K
      (try simp only [Act.put,p1,p2,p3,p4,p5,p6])
      refine wpAnyH_ready (rs:=[8]) (by kernel_rfl) (by simp) ?_;refine AllReadyH.cons rfl (fun K hK=>?_) ?_
      ·(try simp only [p1,p2,p3])
       go_simp;have hk:=And.right ‹_∧Kp V _›;refine (TO.out _ _ _ _ _ _ _ _ hZ22 hZ27).mono ?_;rintro e v28 ⟨A28,k28,c28,A29,k29,c29,rfl,hk28,hk29,hW28,hW29,hF28,hF29,hb28⟩;have hp:=Kp.trans hk hb28;have hl9:=Nat.lt_of_lt_of_le HG.out (Below.size hk);clear hk hb28 hZ22 hZ27
       (try (go_wp2_with fail))
       refine hK.out _ _ ?k16 (fun hHeld16=>?n16)
       case k16=>((try dsimp only);with_reducible first|(refine HS2.out _ ?_;assumption)|(refine HS2.out _ (Kp.drew ?_);assumption)|(refine' HS2.out _ (Kp.drew (And.right ?_));rotate_left;assumption))
       clear hK K
       (try simp only [Act.put,p1,p2,p3,p4,p5,p6])
       refine wpAnyH_done (by kernel_rfl) ?_ _;unfold Qfr;dsimp only;have hr9:RS4 (w.heap.size+1+1) 42 W v28:=RS4.call HR4.out hp;obtain ⟨_,_,_,_,f0,f1,f2,f3,f4,f5,f6,f7⟩:=hr9.four;refine wpAny_ready (rs:=[9]) (by kernel_rfl) (by simp) ?_;refine AllReady.cons rfl (fun K hK=>?_) AllReady.nil
       (try simp only [p1,p2,p3])
       go_simp;refine hK _ _ ?_;clear hK K
       (try simp only [Act.put,p1,p2,p3,p4,p5,p6])
       refine wpAny_done (by kernel_rfl) ?_ _;have hfin:=retQ_close hBW (by omega) (by have:=HSZ.out;have h9:=hl9;have h8:=HG.out;omega) hr9 hk28 hk29 hW28 hW29 hF28 hF29;obtain ⟨d0,d1,d2,d3,-,-,-,-⟩:=(hr9.done (.bool (decide ((y).num<0))) (.slice A28 k28 c28) (.bool false) (.slice A29 k29 c29)).four;have HF:=Hj hfin;clear hfin hl9 hr9 TD TD2 TA TM3 TO;go_wp2;refine bodyPost_ret (v:=.agg #[.bool (decide ((y).num<0)),.slice A28 k28 c28,.bool false,.slice A29 k29 c29]) ?_ rfl HF.out;simp [results,Tryz.results78,go_sem,d0,d1,d2,d3]
      exact AllReadyH.nil
     exact AllReadyH.nil
    exact AllReadyH.nil
   exact AllReadyH.nil
  exact AllReadyH.nil
end Go.Proofs.YtjajigkacccdgaaGreat
