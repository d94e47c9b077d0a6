/-
Lemmas of the walk; no further conditions.
-/
import Derived.OrdersHeld
import Derived.Deep.RegionHeld3
import Derived.Test.YtjajigkacccdgaaGreatThBF
import Derived.Deep.DrawnRows
set_option linter.unusedVariables false
set_option linter.unusedSimpArgs false
set_option maxRecDepth 100000
set_option maxHeartbeats 16000000
namespace Go.Proofs.YtjajigkacccdgaaGreat
open Go
section
variable {P:Program} {ops fr:Array Oper} {Q:Exit→Act→World→Prop} {N r:Nat}
def Qfr (Q:Exit→Act→World→Prop) (k:Act→World→Prop):Exit→Act→World→Prop
 | .normal=>k
 | .panic c=>Q (.panic c)
 | e=>Q e
theorem wpAny_more:∀ (f:Nat) (l:Array Bool) (a:Act) (w:World),wpAny P .any ops Q f l a w→wpAny P .any ops Q (f+1) l a w
 | 0,_,_,_,h=>⟨fun _=>h.2,by rw [h.1];intro i hi;cases hi⟩
 | f+1,l,a,w,h=>⟨h.1,fun i hi=>wpOp_mono (fun a' w'=>wpAny_more f _ a' w') (h.2 i hi)⟩
theorem wpAny_mores {f:Nat} {l:Array Bool} {a:Act} {w:World} (h:wpAny P .any ops Q f l a w):∀ k,wpAny P .any ops Q (f+k) l a w
 | 0=>h
 | k+1=>wpAny_more _ _ _ _ (wpAny_mores h k)
def needs (ops:Array Oper) (i:Nat):List Nat:=((ops[i]?).map fun o=>(o.after.toList.filter (Region.binds .any)).map (·.on)).getD []
def reach (ops:Array Oper):Nat→Nat→Nat→Bool
 | 0,_,_=>false
 | f+1,j,i=>(needs ops j).any (fun k=>k == i) || (needs ops j).any (fun k=>reach ops f k i)
def Clo (ops:Array Oper) (l:Array Bool):Prop:=∀ k,l.getD k false=true→∀ e∈needs ops k,l.getD e false=true
theorem reach_listed {l:Array Bool} (hc:Clo ops l):∀ (f j i:Nat),(∀ e∈needs ops j,l.getD e false=true)→reach ops f j i=true→l.getD i false=true
 | 0,_,_,_,h=>by cases h
 | f+1,j,i,hj,h=>by
  unfold reach at h;rcases Bool.or_eq_true_iff.1 h with h|h
  ·obtain ⟨k,hk,e⟩:=List.any_eq_true.1 h;rw [← eq_of_beq e];exact hj k hk
  ·obtain ⟨k,hk,e⟩:=List.any_eq_true.1 h;exact reach_listed hc f k i (hc k (hj k hk)) e
theorem ready_needs {l:Array Bool} {i:Nat}:i∈Region.ready .any ops l↔l.getD i true=false∧i<ops.size∧∀ e∈needs ops i,l.getD e false=true:=by
 rw [mem_ready];unfold needs;constructor
 ·rintro ⟨h0,o,ho,h⟩;refine ⟨h0,(Array.getElem?_eq_some_iff.1 ho).1,?_⟩;rw [ho];intro e he;simp only [Option.map_some,Option.getD_some,List.mem_map,List.mem_filter] at he;obtain ⟨x,⟨hx,hb⟩,rfl⟩:=he;exact h x (by simpa using hx) hb
 ·rintro ⟨h0,hi,h⟩;have ho:ops[i]?=some ops[i]:=Array.getElem?_eq_getElem hi;refine ⟨h0,_,ho,fun e he hb=>?_⟩;refine h e.on ?_;rw [ho];simp only [Option.map_some,Option.getD_some,List.mem_map,List.mem_filter];exact ⟨e,⟨by simpa using he,hb⟩,rfl⟩
def mask (N r:Nat):Array Bool:=Array.replicate N true ++ Array.replicate r false
def wide (l:Array Bool) (r:Nat):Array Bool:=l ++ Array.replicate r false
theorem wide_lt {l:Array Bool} {i:Nat} (d:Bool) (h:i<l.size):(wide l r).getD i d=l.getD i d:=by
 unfold wide;simp [Array.getD_eq_getD_getElem?,Array.getElem?_append_left h]
theorem wide_ge {l:Array Bool} {i:Nat} (h:l.size≤i):(wide l r).getD i false=false:=by
 unfold wide;rw [Array.getD_eq_getD_getElem?,Array.getElem?_append_right h,Array.getElem?_replicate];split<;>rfl
theorem wide_set {l:Array Bool} {i:Nat} (h:i<l.size):(wide l r).setIfInBounds i true=wide (l.setIfInBounds i true) r:=by
 unfold wide;rw [Array.setIfInBounds_append_left h]
def splits (ops:Array Oper) (N r:Nat):Bool :=
 (ops.size == N+r) && ((List.range (N+r)).all fun i=>(needs ops i).all (fun k=>decide (k<i)) && (((ops[i]?).map fun o=>match o.guard with|none=>true|some (g,_)=>decide (g<i)).getD true)) &&
  ((List.range r).all fun j=>(List.range N).all fun i=>reach ops (N+r) (N+j) i)
theorem wpOp_front {i:Nat} {o:Oper} {K K':Act→World→Prop} {k:Act→World→Prop} {a:Act} {w:World} (h1:fr[i]?=some o) (h2:ops[i]?=some o) (hg:∀ g b,o.guard=some (g,b)→fr[g]?=ops[g]?) (hK:∀ a w,K a w→K' a w)
  (h:wpOp P fr (Qfr Q k) i K a w):wpOp P ops Q i K' a w:=by
 unfold wpOp at *;simp only [h1,h2] at *;have hw:Region.wanted o (yielded fr a.tmps)=Region.wanted o (yielded ops a.tmps):=by
  unfold Region.wanted;cases ho:o.guard with
  | none=>rfl
  | some p=>obtain ⟨g,b⟩:=p;simp only [yielded,hg g b ho]
 rw [← hw];have hl:LetsOut (Qfr Q k)→LetsOut Q:=fun ⟨a,w,h⟩=>⟨a,w,h⟩;split
 ·rename_i hw'
  simp only [hw',if_true] at h;refine h.imp (fun h=>?_) (fun h=>⟨h.1,hl h.2⟩);unfold Oper.wp at *;generalize (execOp a.eval o).run P w=res at *;cases res with
  | ok n w' =>
   cases n<;>simp only [Oper.upon] at h ⊢
   case value=>exact hK _ _ h
   case skip=>exact hK _ _ h
   case defer=>exact hK _ _ h
   case enter f args =>
    refine Calls.mono h fun e w'' he=>?_;cases e with
    | returned u=>exact hK _ _ he
    | panicked c=>exact he
    | outgrown=>exact hl he
   case row row args=>exact Rows.mono h fun _ _ he=>hK _ _ he
  | halt x w'=>cases x<;>simp only [Oper.upon] at h ⊢<;>exact h
 ·rename_i hw'
  simp only [hw'] at h;exact hK _ _ h
theorem wpOp_back {i:Nat} {o:Oper} {K:Act→World→Prop} {k:Act→World→Prop} {a:Act} {w:World} (h1:fr[i]?=some o) (h2:ops[i]?=some o) (hg:∀ g b,o.guard=some (g,b)→fr[g]?=ops[g]?)
  (h:wpOp P ops Q i K a w):wpOp P fr (Qfr Q k) i K a w:=by
 unfold wpOp at *;simp only [h1,h2] at *;have hw:Region.wanted o (yielded fr a.tmps)=Region.wanted o (yielded ops a.tmps):=by
  unfold Region.wanted;cases ho:o.guard with
  | none=>rfl
  | some p=>obtain ⟨g,b⟩:=p;simp only [yielded,hg g b ho]
 rw [hw];have hl:LetsOut Q→LetsOut (Qfr Q k):=fun ⟨a,w,h⟩=>⟨a,w,h⟩;split
 ·rename_i hw'
  simp only [hw',if_true] at h;refine h.imp (fun h=>?_) (fun h=>⟨h.1,hl h.2⟩);unfold Oper.wp at *;generalize (execOp a.eval o).run P w=res at *;cases res with
  | ok n w' =>
   cases n<;>simp only [Oper.upon] at h ⊢
   case value=>exact h
   case skip=>exact h
   case defer=>exact h
   case enter f args =>
    refine Calls.mono h fun e w'' he=>?_;cases e with
    | returned u=>exact he
    | panicked c=>exact he
    | outgrown=>exact hl he
   case row row args=>exact Rows.mono h fun _ _ he=>he
  | halt x w'=>cases x<;>simp only [Oper.upon] at h ⊢<;>exact h
 ·rename_i hw'
  simp only [hw'] at h;exact h
theorem min_or_full (hA:∀ i,i<fr.size→∀ k∈needs fr i,k<i) (l:Array Bool) (hl:l.size=fr.size):(∀ i,i<fr.size→l.getD i false=true)∨∃ i,i<fr.size∧i∈Region.ready .any fr l:=by
 rcases Classical.em (∀ i,i<fr.size→l.getD i false=true) with h|h
 ·exact .inl h
 ·right;have:∃ i,i<fr.size∧l.getD i false=false:=by
   rcases Classical.em (∃ i,i<fr.size∧l.getD i false=false) with h'|h'
   ·exact h'
   ·exact absurd (fun i hi=>by
     cases e:l.getD i false
     ·exact absurd ⟨i,hi,e⟩ h'
     ·rfl) h
  obtain ⟨i,hi,e⟩:=this
  induction i using Nat.strongRecOn with
  | ind i ih =>
   rcases Classical.em (∀ e∈needs fr i,l.getD e false=true) with h'|h'
   ·refine ⟨i,hi,ready_needs.2 ⟨?_,by omega,h'⟩⟩;simp only [Array.getD_eq_getD_getElem?,Array.getElem?_eq_getElem (show i<l.size by omega),Option.getD_some] at e ⊢;exact e
   ·have:∃ k,k∈needs fr i∧l.getD k false=false:=by
     rcases Classical.em (∃ k,k∈needs fr i∧l.getD k false=false) with h2|h2
     ·exact h2
     ·exact absurd (fun k hk=>by
       cases e:l.getD k false
       ·exact absurd ⟨k,hk,e⟩ h2
       ·rfl) h'
    obtain ⟨k,hk,e'⟩:=this;have hlt:k<i:=hA i hi k hk;exact ih k hlt (by omega) e'
theorem countP_lt {p q:Nat→Bool} (h:∀ x,p x=true→q x=true) {i:Nat} (h1:q i=true) (h2:p i=false):∀ (l:List Nat),i∈l→l.countP p<l.countP q
 | [],hi=>by cases hi
 | x :: l,hi=>by
  have hle:l.countP p≤l.countP q:=List.countP_mono_left fun x _=>h x;rw [List.countP_cons,List.countP_cons];rcases List.mem_cons.1 hi with rfl|hi
  ·rw [h1,h2];simp;omega
  ·have:=countP_lt h h1 h2 l hi;have hx:=h x;cases hp:p x<;>cases hq:q x<;>simp_all<;>omega
def upd (f:Nat→Value) (i:Nat) (v:Value) (j:Nat):Value:=if j=i then v else f j
theorem wpAny_gather (mk:(Nat→Value)→Act) (V:Nat→Value→World→Prop) (D:Nat→Nat→Value→Value→Prop) (S:World→Prop) (R:World→World→Prop) (hA:∀ i,i<fr.size→∀ k∈needs fr i,k<i) (hV:∀ j v w w',V j v w→R w w'→V j v w')
  (hstep:∀ i,i<fr.size→∀ (f:Nat→Value) (w:World) (K:Act→World→Prop),S w→(∀ j∈needs fr i,V j (f j) w)→(∀ v w',S w'→R w w'→V i v w'→(∀ j u,V j u w→D i j v u)→K (mk (upd f i v)) w')→wpOp P fr Q i K (mk f) w)
  (hend:∀ (f:Nat→Value) (w:World),S w→(∀ i,i<fr.size→V i (f i) w)→(∀ i j,i<fr.size→j<fr.size→i≠j→D i j (f i) (f j)∨D j i (f j) (f i))→Q .normal (mk f) w) :
  ∀ (fuel:Nat) (l:Array Bool) (f:Nat→Value) (w:World),l.size=fr.size→(List.range fr.size).countP (fun i=>!l.getD i false)≤fuel→S w→(∀ i,i<fr.size→l.getD i false=true→V i (f i) w) →
   (∀ i j,i<fr.size→j<fr.size→i≠j→l.getD i false=true→l.getD j false=true→D i j (f i) (f j)∨D j i (f j) (f i))→wpAny P .any fr Q fuel l (mk f) w:=by
 have hfin:∀ (l:Array Bool) (f:Nat→Value) (w:World),(∀ i,i<fr.size→l.getD i false=true)→S w→(∀ i,i<fr.size→l.getD i false=true→V i (f i) w) →
   (∀ i j,i<fr.size→j<fr.size→i≠j→l.getD i false=true→l.getD j false=true→D i j (f i) (f j)∨D j i (f j) (f i))→Q .normal (mk f) w:=fun l f w hall hS hv hd =>
  hend f w hS (fun i hi=>hv i hi (hall i hi)) (fun i j hi hj hne=>hd i j hi hj hne (hall i hi) (hall j hj))
 intro fuel
 induction fuel with
 | zero =>
  intro l f w hl hc hS hv hd;have hall:∀ i,i<fr.size→l.getD i false=true:=fun i hi=>by
   have h0:(List.range fr.size).countP (fun i=>!l.getD i false)=0:=by omega
   have:=List.countP_eq_zero.1 h0 i (List.mem_range.2 hi);simpa using this
  refine ⟨List.eq_nil_iff_forall_not_mem.2 fun i hi=>?_,hfin l f w hall hS hv hd⟩;obtain ⟨g1,g2,-⟩:=ready_needs.1 hi;have:=hall i g2;simp only [Array.getD_eq_getD_getElem?,Array.getElem?_eq_getElem (show i<l.size by omega),Option.getD_some] at this g1;rw [g1] at this;cases this
 | succ fuel ih =>
  intro l f w hl hc hS hv hd;refine ⟨fun h0=>?_,fun i hi=>?_⟩
  ·rcases min_or_full hA l hl with h|⟨i,_,h⟩
   ·exact hfin l f w h hS hv hd
   ·rw [h0] at h;cases h
  ·obtain ⟨g1,g2,g3⟩:=ready_needs.1 hi;have g1':l.getD i false=false:=by
    simp only [Array.getD_eq_getD_getElem?,Array.getElem?_eq_getElem (show i<l.size by omega),Option.getD_some] at g1 ⊢;exact g1
   refine hstep i g2 f w _ hS (fun j hj=>hv j (by have:=hA i g2 j hj;omega) (g3 j hj)) (fun v w' hS' hR hVi hD=>?_);have hlist:∀ j,(l.setIfInBounds i true).getD j false=true→j=i∨(j≠i∧l.getD j false=true):=fun j hj=>by
    by_cases hji:j=i
    ·exact .inl hji
    ·rw [getD_set_ne false (Ne.symm hji)] at hj;exact .inr ⟨hji,hj⟩
   refine ih _ _ _ (by simp [hl]) ?_ hS' (fun j hj hlj=>?_) (fun j k hj hk hne hlj hlk=>?_)
   ·have:=countP_lt (p:=fun j=>!(l.setIfInBounds i true).getD j false) (q:=fun j=>!l.getD j false) (i:=i) (fun j hj=>by
     cases e:l.getD j false
     ·rfl
     ·rw [getD_set_true e] at hj;cases hj) (by simp only [g1'];rfl) (by simp [show i<l.size by omega]) (List.range fr.size) (List.mem_range.2 g2)
    omega
   ·rcases hlist j hlj with rfl|⟨hji,hlj⟩
    ·unfold upd;rw [if_pos rfl];exact hVi
    ·unfold upd;rw [if_neg hji];exact hV _ _ _ _ (hv j hj hlj) hR
   ·rcases hlist j hlj with rfl|⟨hji,hlj'⟩
    ·rcases hlist k hlk with rfl|⟨hki,hlk'⟩
     ·exact absurd rfl hne
     ·unfold upd;rw [if_pos rfl,if_neg hki];exact .inl (hD k _ (hv k hk hlk'))
    ·rcases hlist k hlk with rfl|⟨hki,hlk'⟩
     ·unfold upd;rw [if_pos rfl,if_neg hji];exact .inr (hD j _ (hv j hj hlj'))
     ·unfold upd;rw [if_neg hji,if_neg hki];exact hd j k hj hk hne hlj' hlk'
theorem wpAny_split (hs:splits ops N r=true) (hf:fr.size=N) (hpre:∀ i,i<N→fr[i]?=ops[i]?):∀ (f:Nat) (l:Array Bool) (a:Act) (w:World),l.size=N→Clo fr l →
  wpAny P .any fr (Qfr Q (wpAny P .any ops Q r (mask N r))) f l a w→wpAny P .any ops Q (f+r) (wide l r) a w:=by
 unfold splits at hs;simp only [Bool.and_eq_true,beq_iff_eq,List.all_eq_true,List.mem_range,decide_eq_true_eq] at hs;obtain ⟨⟨hM,hA⟩,hR⟩:=hs;have hneed:∀ i,i<N→needs fr i=needs ops i:=fun i hi=>by unfold needs;rw [hpre i hi]
 -- all listed,or one that is not listed may come up
 have hmin:∀ (l:Array Bool),l.size=N→(∀ i,i<N→l.getD i false=true)∨∃ i,i<N∧i∈Region.ready .any fr l:=fun l hl=>by
  rcases Classical.em (∀ i,i<N→l.getD i false=true) with h|h
  ·exact .inl h
  ·right;have:∃ i,i<N∧l.getD i false=false:=by
    rcases Classical.em (∃ i,i<N∧l.getD i false=false) with h'|h'
    ·exact h'
    ·exact absurd (fun i hi=>by
      cases e:l.getD i false
      ·exact absurd ⟨i,hi,e⟩ h'
      ·rfl) h
   obtain ⟨i,hi,e⟩:=this
   induction i using Nat.strongRecOn with
   | ind i ih =>
    rcases Classical.em (∀ e∈needs fr i,l.getD e false=true) with h'|h'
    ·refine ⟨i,hi,ready_needs.2 ⟨?_,by omega,h'⟩⟩;simp only [Array.getD_eq_getD_getElem?,Array.getElem?_eq_getElem (show i<l.size by omega),Option.getD_some] at e ⊢;exact e
    ·have:∃ k,k∈needs fr i∧l.getD k false=false:=by
      rcases Classical.em (∃ k,k∈needs fr i∧l.getD k false=false) with h2|h2
      ·exact h2
      ·exact absurd (fun k hk=>by
        cases e:l.getD k false
        ·exact absurd ⟨k,hk,e⟩ h2
        ·rfl) h'
     obtain ⟨k,hk,e'⟩:=this;have hlt:k<i:=(hA i (by omega)).1 k (by rw [← hneed i hi];exact hk);exact ih k hlt (by omega) e'
 have hfull:∀ (l:Array Bool),l.size=N→(∀ i,i<N→l.getD i false=true)→wide l r=mask N r:=fun l hl h=>by
  unfold wide mask
  congr 1
  apply Array.ext
  ·simp [hl]
  ·intro i h1 h2;have:=h i (by omega);simp only [Array.getD_eq_getD_getElem?,Array.getElem?_eq_getElem h1,Option.getD_some] at this;simp [this]
 intro f
 induction f with
 | zero =>
  intro l a w hl hc h;rcases hmin l hl with h1|⟨i,_,h1⟩
  ·rw [hfull l hl h1,Nat.zero_add];exact h.2
  ·rw [h.1] at h1;cases h1
 | succ f ih =>
  intro l a w hl hc h;rcases hmin l hl with h1|⟨i0,hi0,h1⟩
  ·have hr:Region.ready .any fr l=[]:=by
    refine List.eq_nil_iff_forall_not_mem.2 fun i hi=>?_;obtain ⟨g1,g2,-⟩:=ready_needs.1 hi;have:=h1 i (by omega);simp only [Array.getD_eq_getD_getElem?,Array.getElem?_eq_getElem (show i<l.size by omega),Option.getD_some] at this g1;rw [g1] at this;cases this
   rw [hfull l hl h1,show f+1+r=r+(f+1) by omega];exact wpAny_mores (h.1 hr) _
  ·have hcw:Clo ops (wide l r):=fun k hk e he=>by
    rcases Nat.lt_or_ge k N with hk'|hk'
    ·rw [wide_lt false (by omega)] at hk;have hlt:e<k:=(hA k (by omega)).1 e he;rw [wide_lt false (by omega)];exact hc k hk e (by rw [hneed k hk'];exact he)
    ·rw [wide_ge (by omega)] at hk;cases hk
   have hrd:∀ i,i∈Region.ready .any ops (wide l r)→i<N∧i∈Region.ready .any fr l:=fun i hi=>by
    obtain ⟨g1,g2,g3⟩:=ready_needs.1 hi;rcases Nat.lt_or_ge i N with hi'|hi'
    ·refine ⟨hi',ready_needs.2 ⟨by rw [wide_lt true (by omega)] at g1;exact g1,by omega,fun e he=>?_⟩⟩;rw [hneed i hi'] at he;have hlt:e<i:=(hA i (by omega)).1 e he;have:=g3 e he;rw [wide_lt false (by omega)] at this;exact this
    ·exfalso;have hall:∀ k,k<N→(wide l r).getD k false=true:=fun k hk=>reach_listed hcw (N+r) i k g3 (by have:=hR (i-N) (by omega) k hk;rw [show N+(i-N)=i by omega] at this;exact this);obtain ⟨q1,-,-⟩:=ready_needs.1 h1;have:=hall i0 hi0;rw [wide_lt false (by omega)] at this;simp only [Array.getD_eq_getD_getElem?,Array.getElem?_eq_getElem (show i0<l.size by omega),Option.getD_some] at this q1;rw [q1] at this;cases this
   have hin:i0∈Region.ready .any ops (wide l r):=by
    obtain ⟨q1,-,q3⟩:=ready_needs.1 h1;refine ready_needs.2 ⟨by rw [wide_lt true (by omega)];exact q1,by omega,fun e he=>?_⟩;have hlt:e<i0:=(hA i0 (by omega)).1 e he;rw [wide_lt false (by omega)];exact q3 e (by rw [hneed i0 hi0];exact he)
   rw [show f+1+r=(f+r)+1 by omega];refine ⟨fun h0=>(by rw [h0] at hin;cases hin),fun i hi=>?_⟩;obtain ⟨hiN,hi'⟩:=hrd i hi;have ho:ops[i]?=some ops[i]:=Array.getElem?_eq_getElem (show i<ops.size by omega);refine wpOp_front ((hpre i hiN).trans ho) ho (fun g b hgd=>?_) (fun a' w' h'=>?_) (h.2 i hi')
   ·have:=(hA i (by omega)).2;rw [ho] at this;simp only [Option.map_some,Option.getD_some,hgd,decide_eq_true_eq] at this;exact hpre g (by omega)
   ·rw [wide_set (by omega)];refine ih _ a' w' (by simp [hl]) ?_ h';intro k hk e he;obtain ⟨q1,-,q3⟩:=ready_needs.1 hi';by_cases hki:i=k
    ·subst hki;exact getD_set_true (q3 e he)
    ·rw [getD_set_ne false hki] at hk;exact getD_set_true (hc k hk e he)
theorem wp_region_gather {id:Nat} {a:Act} {w:World} (N r:Nat) (mk:(Nat→Value)→Act) (f0:Nat→Value) (V:Nat→Value→World→Prop) (D:Nat→Nat→Value→Value→Prop) (S:World→Prop) (R:World→World→Prop) (hm:P.follows .mixedOrders=true) (hs:splits ops N r=true) (ha:mk f0=a) (hS:S w.drew) (hV:∀ j v w w',V j v w→R w w'→V j v w')
  (hstep:∀ i,i<N→∀ (f:Nat→Value) (w:World) (K:Act→World→Prop),S w→(∀ j∈needs ops i,V j (f j) w)→(∀ v w',S w'→R w w'→V i v w'→(∀ j u,V j u w→D i j v u)→K (mk (upd f i v)) w')→wpOp P ops Q i K (mk f) w)
  (hend:∀ (f:Nat→Value) (w:World),S w→(∀ i,i<N→V i (f i) w)→(∀ i j,i<N→j<N→i≠j→D i j (f i) (f j)∨D j i (f j) (f i))→wpAny P .any ops Q r (mask N r) (mk f) w):(Code.region id ops true).wp P Q a w:=by
 have hs':=hs;unfold splits at hs;simp only [Bool.and_eq_true,beq_iff_eq,List.all_eq_true,List.mem_range,decide_eq_true_eq] at hs;obtain ⟨⟨hM,hA⟩,-⟩:=hs;have hsz:((ops.toList.take N).toArray).size=N:=by simp;omega
 have hpre:∀ i,i<N→((ops.toList.take N).toArray)[i]?=ops[i]?:=fun i hi=>by
  rw [List.getElem?_toArray,List.getElem?_take];simp [hi]
 have hneed:∀ i,i<N→needs ((ops.toList.take N).toArray) i=needs ops i:=fun i hi=>by unfold needs;rw [hpre i hi]
 refine wp_region_any hm ?_;have hz:=wpAny_split (P:=P) (Q:=Q) hs' hsz hpre N (Array.replicate N false) a w.drew (by simp) (fun k hk=>by
  rw [Array.getD_eq_getD_getElem?,Array.getElem?_replicate] at hk;split at hk<;>cases hk) (by
   rw [← ha];refine wpAny_gather mk V D S R (fun i hi k hk=>?_) hV (fun i hi f w K h1 h2 h3=>?_) (fun f w h1 h2 h3=>?_) N (Array.replicate N false) f0 w.drew (by simp;omega) ?_ hS (fun i hi hl=>?_) (fun i j hi hj hne hl=>?_)
   ·rw [hsz] at hi;rw [hneed i hi] at hk;exact (hA i (by omega)).1 k hk
   ·rw [hsz] at hi;rw [hneed i hi] at h2;have h4:=hstep i hi f w K h1 h2 h3;have ho:ops[i]?=some ops[i]:=Array.getElem?_eq_getElem (show i<ops.size by omega);refine wpOp_back ((hpre i hi).trans ho) ho (fun g b hgd=>?_) h4;have:=(hA i (by omega)).2;rw [ho] at this;simp only [Option.map_some,Option.getD_some,hgd,decide_eq_true_eq] at this;exact hpre g (by omega)
   ·rw [hsz] at h2 h3;exact hend f w h1 h2 h3
   ·have:=List.countP_le_length (p:=fun i=>!(Array.replicate N false).getD i false) (l:=List.range ((ops.toList.take N).toArray).size);rw [List.length_range,hsz] at this;rw [hsz];exact this
   ·rw [Array.getD_eq_getD_getElem?,Array.getElem?_replicate] at hl;split at hl<;>cases hl
   ·rw [Array.getD_eq_getD_getElem?,Array.getElem?_replicate] at hl;split at hl<;>cases hl)
 rw [hM];have e:wide (Array.replicate N false) r=Array.replicate (N+r) false:=by
  unfold wide;rw [Array.replicate_append_replicate]
 rw [e] at hz;exact hz
end
end Go.Proofs.YtjajigkacccdgaaGreat
namespace Go.Proofs.YtjajigkacccdgaaGreat
open Go.RowKit
open Wd
def Vr:List (Value→World→Prop)→Nat→Value→World→Prop
 | [],_,_,_=>True
 | p :: _,0,v,w=>p v w
 | _ :: l,j+1,v,w=>Vr l j v w
def Stay (p:Value→World→Prop):Prop:=∀ v w w',p v w→Kp w w'→p v w'
theorem Vr.keep:∀ {l:List (Value→World→Prop)} (_:∀ p∈l,Stay p) (j:Nat) (v:Value) (w w':World),Vr l j v w→Kp w w'→Vr l j v w'
 | [],_,_,_,_,_,_,_=>trivial
 | p :: l,h,0,v,w,w',hv,hk=>h p (List.mem_cons_self ..) v w w' hv hk
 | _ :: l,h,j+1,v,w,w',hv,hk=>Vr.keep (l:=l) (fun p hp=>h p (List.mem_cons_of_mem _ hp)) j v w w' hv hk
def Vis (x v:Value) (_:World):Prop:=v=x
theorem Vis.stay (x:Value):Stay (Vis x):=fun _ _ _ h _=>h
section
variable {cur v W:World} {g g':Nat} {t t':TypeId} {x0 x1 a b:Value} {cs':Array Value}
end
end Go.Proofs.YtjajigkacccdgaaGreat
namespace Go.Proofs.YtjajigkacccdgaaGreat
open Go
section
variable {P:Program} {ops:Array Oper} {Q:Exit→Act→World→Prop} {md:Region.Mode} {S:World→Prop}
theorem tkk {oi:Oper} {v:Value} {fuel:Nat} {listed:Array Bool} {a:Act} {w:World} (i:Nat) (hi:ops[i]?=some oi) (hc:(Region.noSelect ops && (Region.free md ops listed i && (Region.ready md ops listed).contains i))=true)
  (hQ:∀ c a w,Q (.panic c) (a.put oi.dst v) w→Q (.panic c) a w) (hy:YieldsIf P ops S oi v a) (hS:S w) (h:wpAnyH P md ops Q S fuel (listed.setIfInBounds i true) (a.put oi.dst v) w):wpAnyH P md ops Q S (fuel+1) listed a w:=by
 simp only [Bool.and_eq_true] at hc;exact wpAnyH_take hi hc.1 hc.2.1 hc.2.2 hQ hy hS h
end
end Go.Proofs.YtjajigkacccdgaaGreat
namespace Go.Proofs.YtjajigkacccdgaaGreat
open Go.RowKit
open Wd
theorem QS.arg {s:Nat} {w:World} {an an':Bool} {aA aA':Option Addr} {ak ac ak' ac':Nat} {q:Rat} (h:QS s w an aA ak ac an' aA' ak' ac' q):QArg w an aA ak ac an' aA' ak' ac' q:=⟨_,_,h⟩
end Go.Proofs.YtjajigkacccdgaaGreat
namespace Go.Proofs.YtjajigkacccdgaaGreat
open Go
open Go.RowKit
open Wd
structure Jn (P:Prop):Prop where
 out:P
section
variable {P:Program} {ops:Array Oper} {Q:Exit→Act→World→Prop} {md:Region.Mode} {S:World→Prop}
theorem tq {oi:Oper} {v:Value} {a2:Act} {l2:Array Bool} {fuel:Nat} {listed:Array Bool} {a:Act} {w:World} (i:Nat) (h:wpAnyH P md ops Q S fuel l2 a2 w)
  (hi:ops[i]?=some oi:=by exact rfl)
  (hc:(Region.noSelect ops && (Region.free md ops listed i && (Region.ready md ops listed).contains i))=true:=by kernel_rfl)
  (hy:Region.wanted oi (yielded ops a.tmps)=true∧∀ w,S w→(execOp a.eval oi).run P w=.ok (.value v) w:=by (refine And.intro (by exact rfl) ?_;intro w hSw;(try dsimp only at hSw);(try simp only [p1,p2,p3]);go_simp;first|done|with_reducible rfl))
  (hQ:∀ c a w,Q (.panic c) (a.put oi.dst v) w→Q (.panic c) a w:=by exact fun _ _ _ h=>h)
  (hS:S w:=by assumption)
  (ha:a.put oi.dst v=a2:=by ((try simp only [Act.put,p1,p2,p3,p4,p5,p6]);exact rfl))
  (hl:listed.setIfInBounds i true=l2:=by ((try simp only [p4,p5,p6]);exact rfl)):wpAnyH P md ops Q S (fuel+1) listed a w:=by
 subst ha;subst hl;exact tkk i hi hc hQ (Or.inl hy) hS h
theorem tu {oi:Oper} {a2:Act} {l2:Array Bool} {fuel:Nat} {listed:Array Bool} {a:Act} {w:World} (i:Nat) (h:wpAnyH P md ops Q S fuel l2 a2 w)
  (hi:ops[i]?=some oi:=by exact rfl)
  (hc:(Region.noSelect ops && (Region.free md ops listed i && (Region.ready md ops listed).contains i))=true:=by kernel_rfl)
  (hy:Region.wanted oi (yielded ops a.tmps)=false:=by exact rfl)
  (hQ:∀ c a w,Q (.panic c) (a.put oi.dst undef) w→Q (.panic c) a w:=by exact fun _ _ _ h=>h)
  (hS:S w:=by assumption)
  (ha:a.put oi.dst undef=a2:=by ((try simp only [Act.put,p1,p2,p3,p4,p5,p6]);exact rfl))
  (hl:listed.setIfInBounds i true=l2:=by ((try simp only [p4,p5,p6]);exact rfl)):wpAnyH P md ops Q S (fuel+1) listed a w:=by
 subst ha;subst hl;exact tkk i hi hc hQ (Or.inr ⟨hy,rfl⟩) hS h
theorem rd1 {o:Oper} {fuel:Nat} {listed:Array Bool} {a:Act} {w:World} (i:Nat)
  (h:∀ K':Act→World→Prop,Shut (∀ a w,S w→(S w→wpAnyH P md ops Q S fuel (listed.setIfInBounds i true) a w)→K' a w)→if Region.wanted o (yielded ops a.tmps)=true then Oper.wp P o a w K' Q else K' (a.put o.dst undef) w)
  (hr:Region.ready md ops listed=[i]:=by kernel_rfl) (ho:ops[i]?=some o:=by exact rfl):wpAnyH P md ops Q S (fuel+1) listed a w :=
 wpAnyH_ready hr (by simp) (AllReadyH.cons ho h AllReadyH.nil)
theorem held_at {C:World→Prop} {id:Nat} {a:Act} {W w:World} (hC:∀ w',Kp W w'→C w') (h0:Kp W w)
  (h:Hid (∀ w',Kp W w'→C w'∧Kp W w')→C w.drew∧Kp W w.drew→wpAnyH P .any ops Q (fun w'=>C w'∧Kp W w') ops.size (Array.replicate ops.size false) a w.drew) (hm:P.follows .mixedOrders=true:=by kernel_rfl):(Code.region id ops true).wp P Q a w :=
 wp_region_held_drew hm ⟨hC _ (Kp.drew h0),Kp.drew h0⟩ (fun hh=>h (Hj fun w' hk=>⟨hC w' hk,hk⟩) hh)
end
theorem cmpQ_gt {a b:Rat}:cmpQ a b=1↔b<a:=by
 unfold cmpQ;split
 ·rename_i h
  have:¬ b<a:=by grind
  simp [this]
 ·split<;>simp_all
theorem num_ltW (q:Rat):q<0↔q.num<0:=by rw [Rat.lt_iff];simp
theorem kfill_no (up:Bool) (A:Option Addr) (m n c:Nat) (lv:List St.Lv) (w:World) (h:LvAt w A m n lv) (hv:VL up n lv) (an an':Bool) (aA aA':Option Addr) (ak ac ak' ac':Nat) (q:Rat) (hq:QArg w an aA ak ac an' aA' ak' ac' q) (hx:q<0∨((totI lv:Int):Rat)<q) :
  Calls Tryz.prog 84 #[.slice A m c,.agg #[.bool an,.slice aA ak ac,.bool an',.slice aA' ak' ac']] w fun e w'=>e=.returned (.tuple #[.slice none 0 0,.int .i64 1])∧Below w.heap.size w w':=by
 have hl:=h.1;have hlen:=hv.len;have htb:=tot_bd lv hv.qty;have CC:=fun W (hW:Below w.heap.size w W)=>check_ok up A m n c lv W (h.below hW) hv;have SM:=fun W (hW:Below w.heap.size w W)=>total_ok up A m n c lv W (h.below hW) hv;clear hv;have SG:=fun W (hW:Below w.heap.size w W)=>(by obtain ⟨N,D,hqa⟩:=hq.below hW;exact qsign_any an an' aA aA' ak ac ak' ac' q W hqa:Calls Tryz.prog 57 #[.agg #[.bool an,.slice aA ak ac,.bool an',.slice aA' ak' ac']] W fun e w'=>e=.returned (.int .i64 (sgnQ q))∧Below W.heap.size W w');have FI:=fun W=>qfromInt64_any (totI lv) W (by omega) (by omega);have CM:=fun (W:World) (hW:Below w.heap.size w W) (B:Option Addr) (k d:Nat) (B':Option Addr) (k' d':Nat) (h:RQ W ((totI lv:Int):Rat) B k d B' k' d')=>qcmp_arg an an' _ false aA aA' B B' ak ac ak' ac' k d k' d' q _ W (hq.below hW) (WQ.arg h (by omega));generalize totI lv=sl at *;generalize ((sl:Int):Rat)=qs at *;by_cases hneg:q<0
 ·have hsg:decide (sgnQ q<0)=true:=by
   have:=(num_ltW q).1 hneg;unfold sgnQ;rw [cmpI_lt this];decide
  generalize sgnQ q=sq at *;have SG:=Hj SG;have CC:=Hj CC;clear SM FI CM h hq hx hneg;go_enter Tryz.func84,Tryz.ntmps84
  go_wp2_with fail
  have hB0:=Blk.new w 42 #[.bool an,.slice aA ak ac,.bool an',.slice aA' ak' ac'];have hBW:Below w.heap.size w (w.alloc (.cells #[.bool an,.slice aA ak ac,.bool an',.slice aA' ak' ac'] 42)):=(Below.refl _ _).alloc (Nat.le_refl _) _;generalize w.alloc (.cells #[.bool an,.slice aA ak ac,.bool an',.slice aA' ak' ac'] 42)=W at *;refine (CC.out W hBW).mono ?_;rintro e w1 ⟨rfl,hb1⟩;have hB1:=hB0.below hb1 hB0.lt;have hBW1:Below w.heap.size w w1:=hBW.trans (hb1.mono hBW.size);have HBK:=Hj (show ∀ w',Kp w1 w'→Below w.heap.size w w' from fun w' hk=>hBW1.trans (Below.mono hk hBW1.size));clear hb1 hB0 hBW hBW1 CC
  go_wp2_with fail
  refine held_at (W:=w1) (C:=fun w'=>w'.cell? ⟨w.heap.size,0,none⟩=some (.bool an)∧w'.cell? ⟨w.heap.size,1,none⟩=some (.slice aA ak ac)∧w'.cell? ⟨w.heap.size,2,none⟩=some (.bool an')∧w'.cell? ⟨w.heap.size,3,none⟩=some (.slice aA' ak' ac')) (fun w' hk=>⟨(hk.blk hB1).cell 0,(hk.blk hB1).cell 1,(hk.blk hB1).cell 2,(hk.blk hB1).cell 3⟩) (Kp.refl w1) (fun HS hH0=>?_);refine tq 0 ?_;refine rd1 1 fun K hK=>?_
  (try simp only [p1,p2,p3])
  go_simp;have hk:=And.right ‹_∧Kp w1 _›;refine (SG.out _ (HBK.out _ hk)).mono ?_;rintro e v1 ⟨rfl,hbx⟩;have hp:Kp w1 v1:=Kp.trans hk hbx;clear hk hbx
  (try (go_wp2_with fail))
  refine hK.out _ _ (HS.out _ hp) fun hH6=>?_;clear hK K hH0
  (try simp only [Act.put,p1,p2,p3,p4,p5,p6])
  refine tq 2 ?_;refine tq 3 ?_;refine tu 4 ?_;refine tu 5 ?_;refine tu 6 ?_;refine tu 7 ?_;refine tu 8 ?_;refine tu 9 ?_;refine tq 10 ?_;refine wpAnyH_done (by kernel_rfl) ?_ _;clear hH6;have HF:=Hj (HBK.out _ hp);clear hp HS hB1;go_wp2;go_ret2;exact ⟨rfl,HF.out⟩
 ·have hsg:decide (sgnQ q<0)=false:=by
   have h1:¬ q.num<0:=fun hh=>hneg ((num_ltW q).2 hh);apply decide_eq_false;unfold sgnQ;rcases Int.lt_trichotomy q.num 0 with h2|h2|h2
   ·exact absurd h2 h1
   ·rw [h2];decide
   ·rw [cmpI_gt h2];decide
  have hcm:decide (0<cmpQ q qs)=true:=by
   apply decide_eq_true;rw [cmpQ_gt.2 (by rcases hx with hx|hx;exact absurd hx hneg;exact hx)];decide
  generalize sgnQ q=sq at *;generalize cmpQ q qs=cq at *;have SG:=Hj SG;have CC:=Hj CC;have SM:=Hj SM;have FI:=Hj FI;have CM:=Hj CM;clear h hq hx hneg;go_enter Tryz.func84,Tryz.ntmps84
  go_wp2_with fail
  have hB0:=Blk.new w 42 #[.bool an,.slice aA ak ac,.bool an',.slice aA' ak' ac'];have hBW:Below w.heap.size w (w.alloc (.cells #[.bool an,.slice aA ak ac,.bool an',.slice aA' ak' ac'] 42)):=(Below.refl _ _).alloc (Nat.le_refl _) _;generalize w.alloc (.cells #[.bool an,.slice aA ak ac,.bool an',.slice aA' ak' ac'] 42)=W at *;refine (CC.out W hBW).mono ?_;rintro e w1 ⟨rfl,hb1⟩;have hB1:=hB0.below hb1 hB0.lt;have hBW1:Below w.heap.size w w1:=hBW.trans (hb1.mono hBW.size);have HBK:=Hj (show ∀ w',Kp w1 w'→Below w.heap.size w w' from fun w' hk=>hBW1.trans (Below.mono hk hBW1.size));clear hb1 hB0 hBW hBW1 CC
  go_wp2_with fail
  refine held_at (W:=w1) (C:=fun w'=>w'.cell? ⟨w.heap.size,0,none⟩=some (.bool an)∧w'.cell? ⟨w.heap.size,1,none⟩=some (.slice aA ak ac)∧w'.cell? ⟨w.heap.size,2,none⟩=some (.bool an')∧w'.cell? ⟨w.heap.size,3,none⟩=some (.slice aA' ak' ac')) (fun w' hk=>⟨(hk.blk hB1).cell 0,(hk.blk hB1).cell 1,(hk.blk hB1).cell 2,(hk.blk hB1).cell 3⟩) (Kp.refl w1) (fun HS hH0=>?_);refine tq 0 ?_;refine rd1 1 fun K hK=>?_
  (try simp only [p1,p2,p3])
  go_simp;have hk:=And.right ‹_∧Kp w1 _›;refine (SG.out _ (HBK.out _ hk)).mono ?_;rintro e v1 ⟨rfl,hbx⟩;have hp:Kp w1 v1:=Kp.trans hk hbx;clear hk hbx
  (try (go_wp2_with fail))
  refine hK.out _ _ (HS.out _ hp) fun hH7=>?_;clear hK K hH0
  (try simp only [Act.put,p1,p2,p3,p4,p5,p6])
  refine tq 2 ?_;refine tq 3 ?_;refine tq 4 ?_;refine tq 5 ?_;refine rd1 6 fun K hK=>?_
  (try simp only [p1,p2,p3])
  go_simp;have hk:=And.right ‹_∧Kp w1 _›;refine (SM.out _ (HBK.out _ hk)).mono ?_;rintro e v2 ⟨rfl,hbx⟩;have hp:Kp w1 v2:=Kp.trans hk hbx;clear hk hbx
  (try (go_wp2_with fail))
  refine hK.out _ _ (HS.out _ hp) fun hH8=>?_;clear hK K hH7
  (try simp only [Act.put,p1,p2,p3,p4,p5,p6])
  refine rd1 7 fun K hK=>?_
  (try simp only [p1,p2,p3])
  go_simp;have hk:=And.right ‹_∧Kp w1 _›;refine (FI.out _).mono ?_;rintro e v3 ⟨A3,k3,c3,A4,k4,c4,rfl,hk3,hk4,hW3,hW4,-,-,hbx⟩;have hp:Kp w1 v3:=Kp.trans hk hbx;have hrq:=(show RQ v3 qs A3 k3 c3 A4 k4 c4 from ⟨hk3,hk4,hW3,hW4⟩);clear hk hbx hk3 hk4 hW3 hW4
  (try (go_wp2_with fail))
  refine hK.out _ _ (HS.out _ hp) fun hH9=>?_;clear hK K hH8
  (try simp only [Act.put,p1,p2,p3,p4,p5,p6])
  refine rd1 8 fun K hK=>?_
  (try simp only [p1,p2,p3])
  go_simp;have hk:=And.right ‹_∧Kp w1 _›;refine (CM.out _ (HBK.out _ hk) _ _ _ _ _ _ hrq).mono ?_;rintro e v4 ⟨rfl,hbx⟩;have hp:Kp w1 v4:=Kp.trans hk hbx;clear hk hbx hrq
  (try (go_wp2_with fail))
  refine hK.out _ _ (HS.out _ hp) fun hH10=>?_;clear hK K hH9
  (try simp only [Act.put,p1,p2,p3,p4,p5,p6])
  refine tq 9 ?_;refine tq 10 ?_;refine wpAnyH_done (by kernel_rfl) ?_ _;clear hH10;have HF:=Hj (HBK.out _ hp);clear hp HS hB1;go_wp2;go_ret2;exact ⟨rfl,HF.out⟩
def ErrQ (w:World) (x:Int) (e:Ending) (w':World):Prop:=e=.returned (.tuple #[.agg #[.bool false,.slice none 0 0,.bool false,.slice none 0 0],.int .i64 x])∧Below w.heap.size w w'
theorem kcost_no (up:Bool) (A:Option Addr) (m n c:Nat) (lv:List St.Lv) (w:World) (h:LvAt w A m n lv) (hv:VL up n lv) (an an':Bool) (aA aA':Option Addr) (ak ac ak' ac':Nat) (q:Rat) (hq:QArg w an aA ak ac an' aA' ak' ac' q) (hx:q<0∨((totI lv:Int):Rat)<q) :
  Calls Tryz.prog 32 #[.slice A m c,.agg #[.bool an,.slice aA ak ac,.bool an',.slice aA' ak' ac']] w (ErrQ w 1):=by
 have TA:=Hj (fun W (hW:Below w.heap.size w W)=>kfill_no up A m n c lv W (h.below hW) hv an an' aA aA' ak ac ak' ac' q (hq.below hW) hx);unfold ErrQ;clear h hq hx hv;go_enter Tryz.func32,Tryz.ntmps32
 go_wp2_with fail
 obtain ⟨hB0,hB1,hBW,hsz⟩:=pre2 w 42 #[.bool an,.slice aA ak ac,.bool an',.slice aA' ak' ac'] 42 #[.bool false,.slice none 0 0,.bool false,.slice none 0 0];generalize (w.alloc (.cells #[.bool an,.slice aA ak ac,.bool an',.slice aA' ak' ac'] 42)).alloc (.cells #[.bool false,.slice none 0 0,.bool false,.slice none 0 0] 42)=W at *;have HSZ:=Hj hsz;clear hsz;refine (TA.out W hBW).mono ?_;rintro e w1 ⟨rfl,hb1⟩;have hr:=(RS4.start hB1).call hb1;obtain ⟨_,_,_,_,c0,c1,c2,c3,f0,f1,f2,f3⟩:=hr.four;obtain ⟨d0,d1,d2,d3,-,-,-,-⟩:=(hr.done (.bool false) (.slice none 0 0) (.bool false) (.slice none 0 0)).four;have HF:=Hj (below_set4 (g:=w.heap.size+1) (hBW.trans (hb1.mono hBW.size)) (by omega) (.bool false) (.slice none 0 0) (.bool false) (.slice none 0 0));clear hr hb1 hB0 hB1 hBW TA;go_wp2;refine bodyPost_ret (v:=.tuple #[.agg #[.bool false,.slice none 0 0,.bool false,.slice none 0 0],.int .i64 1]) ?_ rfl ⟨rfl,HF.out⟩;simp [results,Tryz.results32,go_sem,d0,d1,d2,d3]
theorem share_no (up:Bool) (A:Option Addr) (m n c:Nat) (lv:List St.Lv) (w:World) (h:LvAt w A m n lv) (hv:VL up n lv) (an an':Bool) (aA aA':Option Addr) (ak ac ak' ac':Nat) (q:Rat) (hq:QArg w an aA ak ac an' aA' ak' ac' q) (hx:q<0∨((totI lv:Int):Rat)<q) :
  Calls Tryz.prog 31 #[.slice A m c,.agg #[.bool an,.slice aA ak ac,.bool an',.slice aA' ak' ac']] w fun e w'=>e=.returned (.tuple #[.slice none 0 0,.int .i64 1])∧Below w.heap.size w w':=by
 have TA:=Hj (fun W (hW:Below w.heap.size w W)=>kfill_no up A m n c lv W (h.below hW) hv an an' aA aA' ak ac ak' ac' q (hq.below hW) hx);clear h hq hx hv;go_enter Tryz.func31,Tryz.ntmps31
 go_wp2_with fail
 obtain ⟨hB0,hBW,hsz⟩:=pre1 w 42 #[.bool an,.slice aA ak ac,.bool an',.slice aA' ak' ac'];generalize w.alloc (.cells #[.bool an,.slice aA ak ac,.bool an',.slice aA' ak' ac'] 42)=W at *;have HSZ:=Hj hsz;clear hsz;refine (TA.out W hBW).mono ?_;rintro e w1 ⟨rfl,hb1⟩;have HF:=Hj (hBW.trans (hb1.mono hBW.size));clear hb1 hB0 hBW TA;go_wp2;go_ret2;exact ⟨rfl,HF.out⟩
end Go.Proofs.YtjajigkacccdgaaGreat
namespace Go.Proofs.YtjajigkacccdgaaGreat
open Go.RowKit
open Wd
attribute [local go_sem ↓] Go.wp_at_zero Go.wp_at_succ
section
variable {w wr:World} {g g':Nat} {m s:Rat} {A A' B B':Option Addr} {j c j' c' i d i' d':Nat}
end
theorem ls_zero (s:Nat) (hs:1≤s):Ls s (0:Rat):=by
 have h1:WB 1≤WB s:=wb_mono hs;have h2:WB 1=4294967296:=rfl;refine ⟨?_,?_⟩
 ·show 0<WB s;omega
 ·show 1<WB s;omega
theorem costAt_ls {s:Nat} {l:List (Int×Int)} {q:Rat} (hp:∀ k,k<l.length→Ls s (partAt l q k)) (hpr:∀ x∈l,x.2.natAbs≤18446744073709551616):∀ k,k≤l.length→Ls (k*(s+6)+1) (costAt l q k)
 | 0,_=>ls_zero _ (by omega)
 | k+1,hk=>by
  have ih:=costAt_ls hp hpr k (by omega);have h1:=(hp k (by omega)).mul (ls_int (Nat.le_refl 3) (hpr _ (getD_mem (d:=(0,0)) (show k<l.length by omega))));rw [costAt];exact (ih.add h1).mono (by rw [Nat.succ_mul];omega)
theorem costOK_s {s L:Nat} (hs:3≤s) (hL:1≤L) {l:List (Int×Int)} {q:Rat} (hl:l.length≤L) (hp:∀ k,k<l.length→Ls s (partAt l q k)) (hpr:∀ x∈l,x.2.natAbs≤18446744073709551616) :
  CostOK (WB (2*(L*(s+6)+1)+1)) (WB s) (WB s) (WB (L*(s+6)+1)) (WB (L*(s+6)+1)) l q:=by
 have h3:=wb_three;have h3s:=wb_mono hs;have hLs:s+6≤L*(s+6):=Nat.le_mul_of_pos_left _ hL;have m1:=wb_mul s s;have m2:=wb_mul (L*(s+6)+1) (L*(s+6)+1);have k1:WB (s+s+1)≤WB (2*(L*(s+6)+1)+1):=wb_mono (by omega);have k2:WB (L*(s+6)+1+(L*(s+6)+1)+1)≤WB (2*(L*(s+6)+1)+1):=wb_mono (by omega);have k3:WB s≤WB (2*(L*(s+6)+1)+1):=wb_mono (by omega);have k4:WB (L*(s+6)+1)≤WB (2*(L*(s+6)+1)+1):=wb_mono (by omega);refine ⟨by omega,k3,by omega,by omega,by omega,by omega,k3,k3,by omega,by omega,k4,k4,fun k hk=>?_,fun k hk=>?_⟩
 ·exact (costAt_ls hp hpr k hk).mono (by have:=Nat.mul_le_mul_right (s+6) (Nat.le_trans hk hl);omega)
 ·exact ((hp k hk).mul (ls_int (Nat.le_refl 3) (hpr _ (getD_mem (d:=(0,0)) hk)))).mono (by omega)
end Go.Proofs.YtjajigkacccdgaaGreat
namespace Go.Proofs.YtjajigkacccdgaaGreat
open Go.RowKit
open Wd
namespace St
end St
end Go.Proofs.YtjajigkacccdgaaGreat
namespace Go.Proofs.YtjajigkacccdgaaGreat
open Go.RowKit
open Wd
def aL (p:Int) (l:List (Int×Int)):Int:=sumI (l.map fun s=>if s.2<p then s.1 else 0)
def aM (p:Int) (l:List (Int×Int)):Int:=sumI (l.map fun s=>if s.2≤p then s.1 else 0)
namespace St
end St
end Go.Proofs.YtjajigkacccdgaaGreat
namespace Go.Proofs.YtjajigkacccdgaaGreat
open Go.RowKit
open Wd
theorem lessQ_spec {z:Rat} {a:Int} (h0:0≤z) (ha:0≤a):0≤lessQ z a∧lessQ z a≤(a:Rat)∧lessQ z a≤z∧((lessQ z a=z∧z≤(a:Rat))∨(lessQ z a=(a:Rat)∧(a:Rat)<z)):=by
 have h1:(0:Rat)≤(a:Rat):=by exact_mod_cast ha
 unfold lessQ;split
 ·exact ⟨h1,Rat.le_refl,by grind,Or.inr ⟨rfl,by assumption⟩⟩
 ·exact ⟨h0,by grind,Rat.le_refl,Or.inl ⟨rfl,by grind⟩⟩
def sumF (f:Nat→Rat):Nat→Rat
 | 0=>0
 | k+1=>sumF f k+f k
structure LF (n:Nat) (lo up:Nat→Rat) (xs:Nat→Rat) (q:Rat):Prop where
 ge:∀ i,i<n→lo i≤xs i
 le:∀ i,i<n→xs i≤up i
 sum:sumF xs n=q
 last:∀ i,i<n→lo i<xs i→∀ k,k<n→i<k→xs k=up k
end Go.Proofs.YtjajigkacccdgaaGreat
