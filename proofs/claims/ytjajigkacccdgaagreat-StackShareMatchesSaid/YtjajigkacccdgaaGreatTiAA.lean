/-
Lemmas of the walk; no further conditions.
-/
import Derived.Test.YtjajigkacccdgaaGreatProg
import Derived.Tactics
import Derived.Tactics2
import Derived.WalkKit
import Derived.Below
import Derived.Lib.Hide
import Derived.KernelRfl
import Derived.OneCell
import Derived.WalkSpells
import Derived.Outline
import Derived.Deep.Draws
import Derived.Deep.QuietTactic
import Derived.BigQuiet
import Derived.Laws.Bits64
import Derived.Laws.BitsAllLaws
set_option linter.unusedVariables false
set_option linter.unusedSimpArgs false
set_option maxRecDepth 100000
set_option maxHeartbeats 16000000
namespace Go.Proofs.YtjajigkacccdgaaGreat
theorem p1 {α : Type} {xs : List α} {i : Nat} (h : i < xs.toArray.size) : xs.toArray[i] = xs[i]'(by simpa using h) := List.getElem_toArray h
theorem p2 {α : Type} {a : α} {xs : List α} (h : 0 < (a :: xs).length) : (a :: xs)[0] = a := rfl
theorem p3 {α : Type} {a : α} {xs : List α} {i : Nat} (h : i + 1 < (a :: xs).length) : (a :: xs)[i + 1] = xs[i]'(Nat.lt_of_succ_lt_succ h) := rfl
theorem p4 {α : Type} (l : List α) (i : Nat) (a : α) : l.toArray.setIfInBounds i a = (l.set i a).toArray := List.setIfInBounds_toArray l i a
theorem p5 {α : Type} {x a : α} {xs : List α} : (x :: xs).set 0 a = a :: xs := rfl
theorem p6 {α : Type} {x a : α} {xs : List α} {n : Nat} : (x :: xs).set (n + 1) a = x :: xs.set n a := rfl
namespace Wd
def val:List Nat→Nat
 | []=>0
 | d :: l=>d+4294967296*val l
def Ws (l:List Nat):Prop:=∀ d∈l,d<4294967296
theorem Ws.nil:Ws []:=fun _ h=>by cases h
theorem Ws.cons {d:Nat} {l:List Nat} (hd:d<4294967296) (h:Ws l):Ws (d :: l):=by
 intro x hx;rcases List.mem_cons.1 hx with rfl|hx
 ·exact hd
 ·exact h x hx
theorem Ws.head {d:Nat} {l:List Nat} (h:Ws (d :: l)):d<4294967296:=h d (List.mem_cons_self ..)
theorem Ws.tail {d:Nat} {l:List Nat} (h:Ws (d :: l)):Ws l:=fun x hx=>h x (List.mem_cons_of_mem _ hx)
theorem Ws.append {a b:List Nat} (ha:Ws a) (hb:Ws b):Ws (a ++ b):=by
 intro x hx;rcases List.mem_append.1 hx with h|h
 ·exact ha x h
 ·exact hb x h
theorem Ws.take {l:List Nat} (h:Ws l) (k:Nat):Ws (l.take k):=fun x hx=>h x (List.mem_of_mem_take hx)
theorem Ws.drop {l:List Nat} (h:Ws l) (k:Nat):Ws (l.drop k):=fun x hx=>h x (List.mem_of_mem_drop hx)
theorem Ws.get {l:List Nat} (h:Ws l) (k:Nat):l[k]?.getD 0<4294967296:=by
 rcases Nat.lt_or_ge k l.length with hk|hk
 ·rw [List.getElem?_eq_getElem hk];exact h _ (List.getElem_mem hk)
 ·rw [List.getElem?_eq_none hk];decide
theorem val_nil:val []=0:=rfl
theorem val_cons (d:Nat) (l:List Nat):val (d :: l)=d+4294967296*val l:=rfl
theorem val_append (a b:List Nat):val (a ++ b)=val a+4294967296 ^ a.length*val b:=by
 induction a with
 | nil=>simp [val]
 | cons d a ih =>
  simp only [List.cons_append,val_cons,ih,List.length_cons,Nat.pow_succ,Nat.mul_add];rw [show 4294967296*(4294967296 ^ a.length*val b)=4294967296 ^ a.length*4294967296*val b by
   rw [← Nat.mul_assoc,Nat.mul_comm 4294967296 (4294967296 ^ a.length)]]
  omega
theorem val_snoc (a:List Nat) (d:Nat):val (a ++ [d])=val a+4294967296 ^ a.length*d:=by
 rw [val_append];simp [val]
theorem val_lt {l:List Nat} (h:Ws l):val l<4294967296 ^ l.length:=by
 induction l with
 | nil=>simp [val]
 | cons d l ih =>
  have h1:=ih h.tail;have h2:=h.head;simp only [val_cons,List.length_cons,Nat.pow_succ];omega
theorem val_replicate_zero (n:Nat):val (List.replicate n 0)=0:=by
 induction n with
 | zero=>rfl
 | succ n ih=>rw [List.replicate_succ,val_cons,ih]
theorem val_take_drop (l:List Nat) (k:Nat) (hk:k≤l.length):val l=val (l.take k)+4294967296 ^ k*val (l.drop k):=by
 have:=val_append (l.take k) (l.drop k);rw [List.take_append_drop,List.length_take,Nat.min_eq_left hk] at this;exact this
def digs (n:Nat):List Nat:=if h:n=0 then [] else n % 4294967296 :: digs (n / 4294967296)
 termination_by n
 decreasing_by exact Nat.div_lt_self (Nat.pos_of_ne_zero h) (by decide)
theorem digs_zero:digs 0=[]:=by rw [digs];simp
theorem digs_pos {n:Nat} (h:n≠0):digs n=n % 4294967296 :: digs (n / 4294967296):=by
 rw [digs];simp [h]
theorem digs_nil {n:Nat} (h:digs n=[]):n=0:=by
 rcases Nat.eq_zero_or_pos n with h0|h0
 ·exact h0
 ·rw [digs_pos (by omega)] at h;cases h
theorem digs_Ws (n:Nat):Ws (digs n):=by
 induction n using Nat.strongRecOn with
 | _ n ih =>
  rcases Nat.eq_zero_or_pos n with h0|h0
  ·subst h0;rw [digs_zero];exact Ws.nil
  ·rw [digs_pos (by omega)];exact Ws.cons (Nat.mod_lt _ (by decide)) (ih _ (Nat.div_lt_self h0 (by decide)))
theorem val_digs (n:Nat):val (digs n)=n:=by
 induction n using Nat.strongRecOn with
 | _ n ih =>
  rcases Nat.eq_zero_or_pos n with h0|h0
  ·subst h0;rw [digs_zero];rfl
  ·rw [digs_pos (by omega),val_cons,ih _ (Nat.div_lt_self h0 (by decide))];omega
theorem digs_cons_pos {d n:Nat} (hd:d<4294967296) (h:d+4294967296*n≠0):digs (d+4294967296*n)=d :: digs n:=by
 rw [digs_pos h];have h1:(d+4294967296*n) % 4294967296=d:=by omega
 have h2:(d+4294967296*n) / 4294967296=n:=by omega
 rw [h1,h2]
theorem digs_val {l:List Nat} (h:Ws l) (hl:l.getLast?≠some 0):digs (val l)=l:=by
 induction l with
 | nil=>exact digs_zero
 | cons d l ih =>
  have hne:val (d :: l)≠0:=by
   clear ih
   induction l generalizing d with
   | nil =>
    simp only [List.getLast?_singleton,ne_eq,Option.some.injEq] at hl;simp only [val];omega
   | cons e l ih =>
    have:=ih e h.tail (by simpa [List.getLast?_cons_cons] using hl);rw [val_cons];omega
  rw [val_cons] at hne ⊢;rw [digs_cons_pos h.head hne,ih h.tail ?_];cases l with
  | nil=>simp
  | cons e l=>simpa [List.getLast?_cons_cons] using hl
theorem digs_last (n:Nat):(digs n).getLast?≠some 0:=by
 induction n using Nat.strongRecOn with
 | _ n ih =>
  rcases Nat.eq_zero_or_pos n with h0|h0
  ·subst h0;rw [digs_zero];simp
  ·rw [digs_pos (by omega)];have h1:=ih _ (Nat.div_lt_self h0 (by decide:1<4294967296));by_cases h2:n / 4294967296=0
   ·rw [h2,digs_zero];simp;omega
   ·rw [digs_pos h2] at h1 ⊢;rw [List.getLast?_cons_cons];exact h1
theorem val_snoc_zero (a:List Nat):val (a ++ [0])=val a:=by rw [val_snoc];simp
theorem digs_len_le {n k:Nat}:(digs n).length≤k↔n<4294967296 ^ k:=by
 induction k generalizing n with
 | zero =>
  constructor
  ·intro h;have:=digs_nil (List.eq_nil_of_length_eq_zero (by omega:(digs n).length=0));omega
  ·intro h;have:n=0:=by simpa using h
   subst this;rw [digs_zero];simp
 | succ k ih =>
  rcases Nat.eq_zero_or_pos n with h0|h0
  ·subst h0;rw [digs_zero];simp [Nat.pow_pos]
  ·rw [digs_pos (by omega),List.length_cons,Nat.pow_succ];have:=@ih (n / 4294967296);rw [Nat.add_le_add_iff_right,this,Nat.div_lt_iff_lt_mul (by decide)]
theorem digs_len_lt {n k:Nat}:k<(digs n).length↔4294967296 ^ k≤n:=by
 have:=@digs_len_le n k;omega
theorem digs_len_mono {m n:Nat} (h:m≤n):(digs m).length≤(digs n).length:=by
 rw [digs_len_le];have:=(@digs_len_le n (digs n).length).1 (Nat.le_refl _);omega
theorem pow2:(4294967296:Nat) ^ 2=18446744073709551616:=by decide
theorem digs_small {n:Nat} (h0:n≠0) (h:n<4294967296):digs n=[n]:=by
 rw [digs_pos h0,Nat.mod_eq_of_lt h,Nat.div_eq_of_lt h,digs_zero]
theorem digs_two {n:Nat} (h0:4294967296≤n) (h:n<18446744073709551616):digs n=[n % 4294967296,n / 4294967296]:=by
 rw [digs_pos (by omega),digs_small (by omega) (by omega)]
theorem digs_take {l:List Nat} (h:Ws l):l.take (digs (val l)).length=digs (val l):=by
 suffices H:∀ n,∀ l:List Nat,l.length=n→Ws l→l.take (digs (val l)).length=digs (val l) from H _ l rfl h
 intro n
 induction n with
 | zero =>
  intro l hl _;have:l=[]:=List.eq_nil_of_length_eq_zero hl;subst this;simp [val,digs_zero]
 | succ n ih =>
  intro l hl hw;by_cases hz:l.getLast?=some 0
  ·obtain ⟨a,rfl⟩:∃ a,l=a ++ [0]:=by
    rw [List.getLast?_eq_some_iff] at hz;exact hz
   have ha:a.length=n:=by simpa using hl
   have hwa:Ws a:=fun x hx=>hw x (by simp [hx]);have hi:=ih a ha hwa;rw [val_snoc_zero];have hle:(digs (val a)).length≤a.length:=digs_len_le.2 (val_lt hwa);rw [List.take_append_of_le_length hle];exact hi
  ·rw [digs_val hw hz,List.take_length]
theorem val_lt_of_top {a b:List Nat} (ha:Ws a) (k:Nat) (hka:k<a.length) (hkb:k<b.length)
  (h:a[k]<b[k]) (hu:∀ j,k<j→a[j]?.getD 0=b[j]?.getD 0) (hl:a.length=b.length):val a<val b:=by
 have e1:=val_take_drop a (k+1) (by omega);have e2:=val_take_drop b (k+1) (by omega);have hd:a.drop (k+1)=b.drop (k+1):=by
  apply List.ext_getElem
  ·simp [hl]
  ·intro i h1 h2;have:=hu (k+1+i) (by omega);simp only [List.length_drop] at h1 h2;rw [List.getElem?_eq_getElem (by omega),List.getElem?_eq_getElem (by omega)] at this;simpa using this
 have t1:a.take (k+1)=a.take k ++ [a[k]]:=by rw [List.take_succ_eq_append_getElem hka]
 have t2:b.take (k+1)=b.take k ++ [b[k]]:=by rw [List.take_succ_eq_append_getElem hkb]
 have l1:val (a.take k)<4294967296 ^ k:=by
  have:=val_lt (ha.take k)
  rwa [List.length_take,Nat.min_eq_left (by omega)] at this
 rw [e1,e2,hd,t1,t2,val_snoc,val_snoc,List.length_take,List.length_take,Nat.min_eq_left (by omega),Nat.min_eq_left (by omega)];have:4294967296 ^ k*a[k]+4294967296 ^ k≤4294967296 ^ k*b[k]:=by
  rw [← Nat.mul_succ];exact Nat.mul_le_mul_left _ h
 omega
end Wd
end Go.Proofs.YtjajigkacccdgaaGreat
namespace Go.Proofs.YtjajigkacccdgaaGreat
open Go.RowKit
open Wd
theorem Hj {p : Prop} (h : p) : Go.RowKit.Hid p := h
def Wat (w:World) (A:Option Addr) (n:Nat) (l:List Nat):Prop :=
 l.length=n∧Ws l∧(n≠0→∃ b o,A=some ⟨b,o,none⟩∧b<w.heap.size∧∀ j,j<n→w.cell? ⟨b,o+j,none⟩=some (.int .u32 ((l[j]?.getD 0:Nat):Int)))
def Fresh (base:Nat) (w:World) (A:Option Addr) (n:Nat):Prop :=
 n≠0→∃ b o,A=some ⟨b,o,none⟩∧base≤b∧∀ j,j<n→w.frozen? ⟨b,o+j,none⟩=false
section
variable {w w':World} {A:Option Addr} {n:Nat} {l:List Nat} {base:Nat}
theorem Wat.nil:Wat w A 0 []:=⟨rfl,Ws.nil,fun h=>absurd rfl h⟩
theorem Wat.keep (h:Wat w A n l) (hs:w.heap.size≤w'.heap.size) (hk:∀ p:Addr,p.block<w.heap.size→w'.cell? p=w.cell? p):Wat w' A n l:=by
 refine ⟨h.1,h.2.1,fun hn=>?_⟩;obtain ⟨b,o,rfl,hb,hc⟩:=h.2.2 hn;exact ⟨b,o,rfl,by omega,fun j hj=>(hk _ hb).trans (hc j hj)⟩
theorem Wat.below (h:Wat w A n l) (hb:Below w.heap.size w w'):Wat w' A n l:=h.keep hb.size fun _ hp=>hb.cell hp
theorem Wat.drewN (h:Wat w A n l) (k:Nat):Wat (w.drewN k) A n l:=h
theorem Wat.alloc (h:Wat w A n l) (o:Obj):Wat (w.alloc o) A n l:=h.below ((Below.refl _ _).alloc (Nat.le_refl _) o)
theorem Fresh.nil:Fresh base w A 0:=fun h=>absurd rfl h
theorem Fresh.keep (h:Fresh base w A n) (hl:Wat w A n l) (hs:Below w.heap.size w w'):Fresh base w' A n:=by
 intro hn;obtain ⟨b,o,rfl,hb,hc⟩:=h hn;obtain ⟨b',o',he,hlt,_⟩:=hl.2.2 hn;cases he;exact ⟨b,o,rfl,hb,fun j hj=>(hs.frozen (p:=⟨b,o+j,none⟩) hlt).trans (hc j hj)⟩
theorem Fresh.mono {base':Nat} (h:Fresh base w A n) (hb:base'≤base):Fresh base' w A n:=by
 intro hn;obtain ⟨b,o,rfl,hb',hc⟩:=h hn;exact ⟨b,o,rfl,by omega,hc⟩
theorem Wat.shorter (h:Wat w A n l) {k:Nat} (hk:k≤n):Wat w A k (l.take k):=by
 refine ⟨by rw [List.length_take,h.1];omega,h.2.1.take k,fun hn=>?_⟩;obtain ⟨b,o,rfl,hb,hc⟩:=h.2.2 (by omega);refine ⟨b,o,rfl,hb,fun j hj=>?_⟩;rw [List.getElem?_take,if_pos hj];exact hc j (by omega)
theorem Wat.trim (h:Wat w A n l):Wat w A (digs (val l)).length (digs (val l)):=by
 have hle:(digs (val l)).length≤n:=by have:=digs_len_le.2 (val_lt h.2.1);rw [h.1] at this;exact this
 have:=h.shorter hle
 rwa [digs_take h.2.1] at this
theorem Wat.trim_le (h:Wat w A n l):(digs (val l)).length≤n:=by
 have:=digs_len_le.2 (val_lt h.2.1);rw [h.1] at this;exact this
theorem Fresh.shorter (h:Fresh base w A n) {k:Nat} (hk:k≤n):Fresh base w A k:=by
 intro hn;obtain ⟨b,o,rfl,hb,hc⟩:=h (by omega);exact ⟨b,o,rfl,hb,fun j hj=>hc j (by omega)⟩
end
theorem heap_new2 (w:World) (o1 o2:Obj):((w.alloc o1).alloc o2).heap[w.heap.size+1]?=some o2:=by
 have:=heap_alloc_new (w.alloc o1) o2
 rwa [World.size_alloc] at this
def Blk (w:World) (g:Nat) (t:TypeId) (cs:Array Value):Prop:=w.heap[g]?=some (.cells cs t (0,0))
section
variable {w w':World} {g:Nat} {t:TypeId} {cs:Array Value} {a b c d a' b' c' d':Value}
theorem Blk.lt (h:Blk w g t cs):g<w.heap.size:=by
 rcases Nat.lt_or_ge g w.heap.size with hlt|hge
 ·exact hlt
 ·unfold Blk at h;rw [Array.getElem?_eq_none hge] at h;cases h
theorem Blk.cell (h:Blk w g t cs) (i:Nat):w.cell? ⟨g,i,none⟩=cs[i]?:=by
 unfold Blk at h;simp [World.cell?,h]
theorem Blk.frozen (h:Blk w g t cs) (i:Nat):w.frozen? ⟨g,i,none⟩=false:=by
 unfold Blk at h;simp [World.frozen?,h]
theorem Blk.new (w:World) (t:TypeId) (cs:Array Value):Blk (w.alloc (.cells cs t)) w.heap.size t cs:=heap_alloc_new w _
theorem Blk.new1 (w:World) (o:Obj) (t:TypeId) (cs:Array Value):Blk ((w.alloc o).alloc (.cells cs t)) (w.heap.size+1) t cs:=by
 have:=Blk.new (w.alloc o) t cs;rwa [World.size_alloc] at this
theorem Blk.new2 (w:World) (o o':Obj) (t:TypeId) (cs:Array Value):Blk (((w.alloc o).alloc o').alloc (.cells cs t)) (w.heap.size+1+1) t cs:=by
 have:=Blk.new1 (w.alloc o) o' t cs;rwa [World.size_alloc] at this
theorem Blk.new3 (w:World) (o o' o'':Obj) (t:TypeId) (cs:Array Value):Blk ((((w.alloc o).alloc o').alloc o'').alloc (.cells cs t)) (w.heap.size+1+1+1) t cs:=by
 have:=Blk.new2 (w.alloc o) o' o'' t cs;rwa [World.size_alloc] at this
theorem Blk.new4 (w:World) (o o' o'' o3:Obj) (t:TypeId) (cs:Array Value):Blk (((((w.alloc o).alloc o').alloc o'').alloc o3).alloc (.cells cs t)) (w.heap.size+1+1+1+1) t cs:=by
 have:=Blk.new3 (w.alloc o) o' o'' o3 t cs;rwa [World.size_alloc] at this
theorem Blk.new5 (w:World) (o o' o'' o3 o4:Obj) (t:TypeId) (cs:Array Value):Blk ((((((w.alloc o).alloc o').alloc o'').alloc o3).alloc o4).alloc (.cells cs t)) (w.heap.size+1+1+1+1+1) t cs:=by
 have:=Blk.new4 (w.alloc o) o' o'' o3 o4 t cs;rwa [World.size_alloc] at this
theorem Blk.drew (h:Blk w g t cs):Blk w.drew g t cs:=h
theorem Blk.drewN (h:Blk w g t cs) (n:Nat):Blk (w.drewN n) g t cs:=h
theorem Blk.alloc (h:Blk w g t cs) (o:Obj):Blk (w.alloc o) g t cs:=(Below.heap_alloc w o g h.lt).trans h
theorem Blk.set (h:Blk w g t cs) (i:Nat) (u:Value):Blk (w.setCell ⟨g,i,none⟩ u) g t (cs.setIfInBounds i u):=by
 unfold Blk at h ⊢;simp [World.setCell,Array.getElem?_modify,h]
theorem Blk.far (h:Blk w g t cs) {p:Addr} (hp:g≠p.block) (u:Value):Blk (w.setCell p u) g t cs:=(Below.heap_setCell w p u g hp).trans h
theorem Blk.below {B:Nat} (h:Blk w g t cs) (hb:Below B w w') (hg:g<B):Blk w' g t cs:=(hb.block g hg).trans h
theorem Blk.one (h:Blk w g t #[a]):w.cell? ⟨g,0,none⟩=some a∧w.frozen? ⟨g,0,none⟩=false:=⟨h.cell 0,h.frozen 0⟩
theorem Blk.two (h:Blk w g t #[a,b]):w.cell? ⟨g,0,none⟩=some a∧w.cell? ⟨g,1,none⟩=some b∧w.frozen? ⟨g,0,none⟩=false∧w.frozen? ⟨g,1,none⟩=false :=
 ⟨h.cell 0,h.cell 1,h.frozen 0,h.frozen 1⟩
theorem Blk.four (h:Blk w g t #[a,b,c,d]):w.cell? ⟨g,0,none⟩=some a∧w.cell? ⟨g,1,none⟩=some b∧w.cell? ⟨g,2,none⟩=some c∧w.cell? ⟨g,3,none⟩=some d ∧
  w.frozen? ⟨g,0,none⟩=false∧w.frozen? ⟨g,1,none⟩=false∧w.frozen? ⟨g,2,none⟩=false∧w.frozen? ⟨g,3,none⟩=false :=
 ⟨h.cell 0,h.cell 1,h.cell 2,h.cell 3,h.frozen 0,h.frozen 1,h.frozen 2,h.frozen 3⟩
theorem Blk.set2 (h:Blk w g t #[a,b]) (a' b':Value):Blk ((w.setCell ⟨g,0,none⟩ a').setCell ⟨g,1,none⟩ b') g t #[a',b']:=(h.set 0 a').set 1 b'
theorem Blk.set4 (h:Blk w g t #[a,b,c,d]) (a' b' c' d':Value):Blk ((((w.setCell ⟨g,0,none⟩ a').setCell ⟨g,1,none⟩ b').setCell ⟨g,2,none⟩ c').setCell ⟨g,3,none⟩ d') g t #[a',b',c',d'] :=
 (((h.set 0 a').set 1 b').set 2 c').set 3 d'
end
theorem Wat.setFar {w:World} {A:Option Addr} {n:Nat} {l:List Nat} {base:Nat} (h:Wat w A n l) (hf:Fresh base w A n) {p:Addr} (hp:p.block<base) (v:Value):Wat (w.setCell p v) A n l:=by
 refine ⟨h.1,h.2.1,fun hn=>?_⟩;obtain ⟨b,o,rfl,hb,hc⟩:=h.2.2 hn;obtain ⟨b',o',he,hlt,_⟩:=hf hn;cases he;refine ⟨b,o,rfl,by simpa [World.setCell] using hb,fun j hj=>?_⟩;rw [World.cell?_setCell_other _ _ _ _ (fun e=>by subst e;simp at hp;omega)];exact hc j hj
theorem Fresh.set {w:World} {A:Option Addr} {n:Nat} {base:Nat} (hf:Fresh base w A n) (p:Addr) (v:Value):Fresh base (w.setCell p v) A n:=by
 intro hn;obtain ⟨b,o,rfl,hb,hc⟩:=hf hn;exact ⟨b,o,rfl,hb,fun j hj=>by rw [World.frozen?_setCell];exact hc j hj⟩
theorem store2_far {w:World} {g:Nat} (a b:Value) {A:Option Addr} {n:Nat} {l:List Nat} (h:Wat w A n l) (hf:Fresh (g+1) w A n) :
  Wat ((w.setCell ⟨g,0,none⟩ a).setCell ⟨g,1,none⟩ b) A n l∧Fresh g ((w.setCell ⟨g,0,none⟩ a).setCell ⟨g,1,none⟩ b) A n :=
 ⟨(h.setFar hf (p:=⟨g,0,none⟩) (Nat.lt_succ_self g) a).setFar (hf.set _ a) (p:=⟨g,1,none⟩) (Nat.lt_succ_self g) b,((hf.set _ a).set _ b).mono (by omega)⟩
theorem below_set2 {w0 w:World} {B g:Nat} (h:Below B w0 w) (hg:B≤g) (a b:Value):Below B w0 ((w.setCell ⟨g,0,none⟩ a).setCell ⟨g,1,none⟩ b) :=
 (h.setCell (p:=⟨g,0,none⟩) hg a).setCell (p:=⟨g,1,none⟩) hg b
theorem store4_far {w:World} {g:Nat} (a b c d:Value) {A:Option Addr} {n:Nat} {l:List Nat} (h:Wat w A n l) (hf:Fresh (g+1) w A n) :
  Wat ((((w.setCell ⟨g,0,none⟩ a).setCell ⟨g,1,none⟩ b).setCell ⟨g,2,none⟩ c).setCell ⟨g,3,none⟩ d) A n l∧Fresh g ((((w.setCell ⟨g,0,none⟩ a).setCell ⟨g,1,none⟩ b).setCell ⟨g,2,none⟩ c).setCell ⟨g,3,none⟩ d) A n :=
 ⟨(((h.setFar hf (p:=⟨g,0,none⟩) (Nat.lt_succ_self g) a).setFar (hf.set _ a) (p:=⟨g,1,none⟩) (Nat.lt_succ_self g) b).setFar ((hf.set _ a).set _ b) (p:=⟨g,2,none⟩) (Nat.lt_succ_self g) c).setFar (((hf.set _ a).set _ b).set _ c) (p:=⟨g,3,none⟩) (Nat.lt_succ_self g) d,
  ((((hf.set _ a).set _ b).set _ c).set _ d).mono (by omega)⟩
theorem below_set4 {w0 w:World} {B g:Nat} (h:Below B w0 w) (hg:B≤g) (a b c d:Value):Below B w0 ((((w.setCell ⟨g,0,none⟩ a).setCell ⟨g,1,none⟩ b).setCell ⟨g,2,none⟩ c).setCell ⟨g,3,none⟩ d) :=
 (((h.setCell (p:=⟨g,0,none⟩) hg a).setCell (p:=⟨g,1,none⟩) hg b).setCell (p:=⟨g,2,none⟩) hg c).setCell (p:=⟨g,3,none⟩) hg d
theorem below_of_alloc {w w1:World} {o:Obj} (h:Below (w.alloc o).heap.size (w.alloc o) w1):Below w.heap.size w w1 :=
 ((Below.refl _ w).alloc (Nat.le_refl _) o).trans (h.mono (by simp))
theorem belowN (w:World) (n:Nat):Below w.heap.size w (w.drewN n):=⟨rfl,rfl,rfl,Nat.le_refl _,fun _ _=>rfl⟩
theorem below_drewN {B:Nat} {a w:World} (h:Below B a w) (n:Nat):Below B a (w.drewN n):=⟨h.os,h.tape,h.output,h.size,h.block⟩
theorem pre1 (w:World) (t0:TypeId) (c0:Array Value):Blk (w.alloc (.cells c0 t0)) w.heap.size t0 c0∧Below w.heap.size w (w.alloc (.cells c0 t0))∧(w.alloc (.cells c0 t0)).heap.size=w.heap.size+1 :=
  ⟨Blk.new _ _ _,(Below.refl _ _).alloc (Nat.le_refl _) _,by simp⟩
theorem pre2 (w:World) (t0:TypeId) (c0:Array Value) (t1:TypeId) (c1:Array Value):Blk ((w.alloc (.cells c0 t0)).alloc (.cells c1 t1)) w.heap.size t0 c0∧Blk ((w.alloc (.cells c0 t0)).alloc (.cells c1 t1)) (w.heap.size+1) t1 c1∧Below w.heap.size w ((w.alloc (.cells c0 t0)).alloc (.cells c1 t1))∧((w.alloc (.cells c0 t0)).alloc (.cells c1 t1)).heap.size=w.heap.size+1+1 :=
  ⟨(Blk.new _ _ _).alloc _,Blk.new1 _ _ _ _,((Below.refl _ _).alloc (Nat.le_refl _) _).alloc (by simp only [World.size_alloc];omega) _,by simp⟩
theorem pre3 (w:World) (t0:TypeId) (c0:Array Value) (t1:TypeId) (c1:Array Value) (t2:TypeId) (c2:Array Value):Blk (((w.alloc (.cells c0 t0)).alloc (.cells c1 t1)).alloc (.cells c2 t2)) w.heap.size t0 c0∧Blk (((w.alloc (.cells c0 t0)).alloc (.cells c1 t1)).alloc (.cells c2 t2)) (w.heap.size+1) t1 c1∧Blk (((w.alloc (.cells c0 t0)).alloc (.cells c1 t1)).alloc (.cells c2 t2)) (w.heap.size+1+1) t2 c2∧Below w.heap.size w (((w.alloc (.cells c0 t0)).alloc (.cells c1 t1)).alloc (.cells c2 t2))∧(((w.alloc (.cells c0 t0)).alloc (.cells c1 t1)).alloc (.cells c2 t2)).heap.size=w.heap.size+1+1+1 :=
  ⟨((Blk.new _ _ _).alloc _).alloc _,(Blk.new1 _ _ _ _).alloc _,Blk.new2 _ _ _ _ _,(((Below.refl _ _).alloc (Nat.le_refl _) _).alloc (by simp only [World.size_alloc];omega) _).alloc (by simp only [World.size_alloc];omega) _,by simp⟩
def Kp (W w':World):Prop:=Below W.heap.size W w'
theorem Kp.refl (W:World):Kp W W:=Below.refl _ _
theorem Kp.drew {W w':World} (h:Kp W w'):Kp W w'.drew:=Below.drew h
theorem Kp.trans {W w1 w2:World} (h:Kp W w1) (hb:Below w1.heap.size w1 w2):Kp W w2:=Below.trans h (hb.mono (Below.size h))
theorem Kp.blk {W w':World} {g:Nat} {t:TypeId} {cs:Array Value} (h:Kp W w') (hg:Blk W g t cs):Blk w' g t cs:=hg.below h hg.lt
def RS (g:Nat) (t:TypeId) (W w':World):Prop:=Below g W w'∧∃ x y,Blk w' g t #[x,y]
theorem RS.start {g:Nat} {t:TypeId} {W:World} {x y:Value} (h:Blk W g t #[x,y]):RS g t W W:=⟨Below.refl _ _,x,y,h⟩
theorem RS.drew {g:Nat} {t:TypeId} {W w:World} (h:RS g t W w):RS g t W w.drew:=⟨h.1.drew,h.2⟩
theorem RS.drewN {g:Nat} {t:TypeId} {W w:World} (h:RS g t W w) (n:Nat):RS g t W (w.drewN n):=⟨below_drewN h.1 n,h.2⟩
theorem RS.call {g:Nat} {t:TypeId} {W w w':World} (h:RS g t W w) (hb:Below w.heap.size w w'):RS g t W w':=by
 obtain ⟨h1,x,y,h2⟩:=h;exact ⟨h1.trans (hb.mono (Nat.le_of_lt h2.lt)),x,y,h2.below hb h2.lt⟩
theorem RS.set {g:Nat} {t:TypeId} {W w:World} (h:RS g t W w) (a b:Value):RS g t W ((w.setCell ⟨g,0,none⟩ a).setCell ⟨g,1,none⟩ b):=by
 obtain ⟨h1,x,y,h2⟩:=h;exact ⟨below_set2 h1 (Nat.le_refl _) a b,a,b,h2.set2 a b⟩
theorem RS.blk {g g':Nat} {t t':TypeId} {W w:World} {cs:Array Value} (h:RS g t W w) (hg:Blk W g' t' cs) (hlt:g'<g):Blk w g' t' cs:=hg.below h.1 hlt
theorem RS.two {g:Nat} {t:TypeId} {W w:World} (h:RS g t W w):∃ x y,w.cell? ⟨g,0,none⟩=some x∧w.cell? ⟨g,1,none⟩=some y∧w.frozen? ⟨g,0,none⟩=false∧w.frozen? ⟨g,1,none⟩=false:=by
 obtain ⟨_,x,y,h2⟩:=h;exact ⟨x,y,h2.two⟩
theorem RS.done {g:Nat} {t:TypeId} {W w:World} (h:RS g t W w) (a b:Value):Blk ((w.setCell ⟨g,0,none⟩ a).setCell ⟨g,1,none⟩ b) g t #[a,b]:=by
 obtain ⟨_,x,y,h2⟩:=h;exact h2.set2 a b
def RS4 (g:Nat) (t:TypeId) (W w':World):Prop:=Below g W w'∧∃ x y z u,Blk w' g t #[x,y,z,u]
theorem RS4.start {g:Nat} {t:TypeId} {W:World} {x y z u:Value} (h:Blk W g t #[x,y,z,u]):RS4 g t W W:=⟨Below.refl _ _,x,y,z,u,h⟩
theorem RS4.drew {g:Nat} {t:TypeId} {W w:World} (h:RS4 g t W w):RS4 g t W w.drew:=⟨h.1.drew,h.2⟩
theorem RS4.call {g:Nat} {t:TypeId} {W w w':World} (h:RS4 g t W w) (hb:Below w.heap.size w w'):RS4 g t W w':=by
 obtain ⟨h1,x,y,z,u,h2⟩:=h;exact ⟨h1.trans (hb.mono (Nat.le_of_lt h2.lt)),x,y,z,u,h2.below hb h2.lt⟩
theorem RS4.set {g:Nat} {t:TypeId} {W w:World} (h:RS4 g t W w) (a b c d:Value):RS4 g t W ((((w.setCell ⟨g,0,none⟩ a).setCell ⟨g,1,none⟩ b).setCell ⟨g,2,none⟩ c).setCell ⟨g,3,none⟩ d):=by
 obtain ⟨h1,x,y,z,u,h2⟩:=h;exact ⟨below_set4 h1 (Nat.le_refl _) a b c d,a,b,c,d,h2.set4 a b c d⟩
theorem RS4.blk {g g':Nat} {t t':TypeId} {W w:World} {cs:Array Value} (h:RS4 g t W w) (hg:Blk W g' t' cs) (hlt:g'<g):Blk w g' t' cs:=hg.below h.1 hlt
theorem RS4.four {g:Nat} {t:TypeId} {W w:World} (h:RS4 g t W w):∃ x y z u,w.cell? ⟨g,0,none⟩=some x∧w.cell? ⟨g,1,none⟩=some y∧w.cell? ⟨g,2,none⟩=some z∧w.cell? ⟨g,3,none⟩=some u ∧
  w.frozen? ⟨g,0,none⟩=false∧w.frozen? ⟨g,1,none⟩=false∧w.frozen? ⟨g,2,none⟩=false∧w.frozen? ⟨g,3,none⟩=false:=by
 obtain ⟨_,x,y,z,u,h2⟩:=h;exact ⟨x,y,z,u,h2.four⟩
theorem RS4.done {g:Nat} {t:TypeId} {W w:World} (h:RS4 g t W w) (a b c d:Value):Blk ((((w.setCell ⟨g,0,none⟩ a).setCell ⟨g,1,none⟩ b).setCell ⟨g,2,none⟩ c).setCell ⟨g,3,none⟩ d) g t #[a,b,c,d]:=by
 obtain ⟨_,x,y,z,u,h2⟩:=h;exact h2.set4 a b c d
def sg (neg:Bool) (n:Nat):Int:=if neg then -(n:Int) else (n:Int)
theorem sg_natAbs (neg:Bool) (n:Nat):(sg neg n).natAbs=n:=by unfold sg;cases neg<;>simp
theorem sg_zero (neg:Bool):sg neg 0=0:=by unfold sg;cases neg<;>rfl
theorem sg_neg {neg:Bool} {n:Nat} (h:n≠0):decide (sg neg n<0)=neg:=by unfold sg;cases neg<;>simp<;>omega
theorem sg_self (z:Int):sg (decide (z<0)) z.natAbs=z:=by
 unfold sg;by_cases h:z<0
 ·simp [h];omega
 ·simp [h];omega
def RetZ (w:World) (z:Int) (e:Ending) (w':World):Prop :=
 ∃ A k c,e=.returned (.agg #[.bool (decide (z<0)),.slice A k c])∧k≤c∧Wat w' A k (digs z.natAbs)∧Fresh w.heap.size w' A k∧Below w.heap.size w w'
theorem retZ_close {w W w2:World} {g base:Nat} {t:TypeId} {A:Option Addr} {k c:Nat} {z:Int} (hBW:Below w.heap.size w W) (hg:w.heap.size≤g) (hb:g<base) (hr:RS g t W w2) (hk:k≤c)
  (hW:Wat w2 A k (digs z.natAbs)) (hF:Fresh base w2 A k) :
  RetZ w z (.returned (.agg #[.bool (decide (z<0)),.slice A k c])) ((w2.setCell ⟨g,0,none⟩ (.bool (decide (z<0)))).setCell ⟨g,1,none⟩ (.slice A k c)):=by
 obtain ⟨h1,h2⟩:=store2_far (g:=g) (.bool (decide (z<0))) (.slice A k c) hW (hF.mono hb);exact ⟨A,k,c,rfl,hk,h1,h2.mono hg,below_set2 (hBW.trans (hr.1.mono hg)) hg _ _⟩
def lenOf:Value→Nat | .slice _ n _=>n|_=>0
theorem ret_int {k:IntKind} {a b:Int} (h:a=b):Ending.returned (.int k a)=.returned (.int k b):=by rw [h]
theorem take_pred {l:List Nat} {k:Nat} (hk:k<l.length) (hz:l[k]?.getD 0=0):val (l.take (k+1))=val (l.take k):=by
 rw [List.take_succ_eq_append_getElem hk];rw [List.getElem?_eq_getElem hk] at hz;simp only [Option.getD_some] at hz;rw [hz,val_snoc_zero]
theorem take_done {l:List Nat} (hw:Ws l) {k:Nat} (hk:k<l.length) (hz:l[k]?.getD 0≠0):digs (val (l.take (k+1)))=l.take (k+1):=by
 refine digs_val (hw.take _) ?_;rw [List.take_succ_eq_append_getElem hk];rw [List.getElem?_eq_getElem hk] at hz;rw [List.getLast?_append];simpa using hz
theorem trim_any (A : Option Addr) (n c:Nat) (l:List Nat) (w:World) (h:Wat w A n l) (hnc:n≤c) (hm:n≤9223372036854775807) :
  Calls Tryz.prog 141 #[.slice A n c] w fun e w'=>e=.returned (.slice A (digs (val l)).length c)∧w=w':=by
 obtain ⟨hl,hws,hc⟩:=h;have HL:=Hj hl;clear hl;go_enter Tryz.func141,Tryz.ntmps141;go_wp2
 go_loop [0] (fun v=>∃ k:Nat,k≤n∧v=.slice A k c∧Hid (val (l.take k)=val l)) (fun v=>lenOf v)
 case atStart=>exact ⟨n,Nat.le_refl _,rfl,by have:=HL.out;subst this;unfold Hid;rw [List.take_length]⟩
 case round =>
  obtain ⟨k,hk,rfl,hv⟩:=hrel;by_cases h0:k=0
  ·subst h0;go_wp2;go_ret;refine ⟨?_,rfl⟩;have e:val l=0:=by have:=hv.out;rw [← this];rfl
   rw [e,digs_zero];rfl
  ·obtain ⟨k, rfl⟩ : ∃ j, k = j + 1 := ⟨k-1,by omega⟩;obtain ⟨b,o,rfl,hb,hcell⟩:=hc (by omega);have hck:=hcell k (by omega);clear hcell hc h0;go_wp2
   ·go_round
    case rel =>
     have hz : l[k]?.getD 0 = 0 := by have h:((l[k]?.getD 0:Nat):Int) == 0:=by assumption
                                      simpa using h
     exact ⟨k,by omega,rfl,(take_pred (by have:=HL.out;omega) hz).symm.trans hv.out⟩
    case measure=>simp [lenOf]
   ·have hz:l[k]?.getD 0≠0:=by
     have h:(((l[k]?.getD 0:Nat):Int) == 0)=false:=by assumption
     simpa using h
    have hd:=take_done hws (k:=k) (by have:=HL.out;omega) hz;go_ret;refine ⟨?_,rfl⟩;rw [← hv.out,hd,List.length_take,Nat.min_eq_left (by have:=HL.out;omega)]
    rfl
theorem or_shift (a b:Nat) (ha:a<4294967296) (hb:b<4294967296):a ||| (b*4294967296)=a+4294967296*b:=by
 rw [Nat.or_comm,nat_join 32 _ _ (by omega) (by omega)];omega
theorem low_any (A:Option Addr) (n c:Nat) (l:List Nat) (w:World) (h:Wat w A n l) (hn:n≤2) :
  Calls Tryz.prog 143 #[.slice A n c] w fun e w'=>e=.returned (.int .u64 (val l:Nat))∧∃ k,w'=w.drewN k:=by
 obtain ⟨hl,hws,hc⟩:=h
 match l,hl with
 | [],hl =>
  obtain rfl:0=n:=hl;go_enter Tryz.func143,Tryz.ntmps143;go_wp2;go_ret;exact ⟨rfl,0,rfl⟩
 | [x],hl =>
  obtain rfl:1=n:=hl;obtain ⟨b,o,rfl,hb,hcell⟩:=hc (by omega);have hc0:w.cell? ⟨b,o,none⟩=some (.int .u32 (x:Int)):=hcell 0 (by omega);have hx:=hws.head;clear hcell hc hws hl;go_enter Tryz.func143,Tryz.ntmps143;go_wp2;go_ret;exact ⟨ret_int (by simp [val]),0,rfl⟩
 | [x,y],hl =>
  obtain rfl:2=n:=hl;obtain ⟨b,o,rfl,hb,hcell⟩:=hc (by omega);have hc0:w.cell? ⟨b,o,none⟩=some (.int .u32 (x:Int)):=hcell 0 (by omega);have hc1:w.cell? ⟨b,o+1,none⟩=some (.int .u32 (y:Int)):=hcell 1 (by omega);have hx:=hws.head;have hy:=hws.tail.head;clear hcell hc hws hl;go_enter Tryz.func143,Tryz.ntmps143;go_wp2
  go_quiet (fail)
  go_wp2;go_ret;refine ⟨ret_int ?_,nq,rfl⟩;rw [show ((y:Int)*4294967296)=((y*4294967296:Nat):Int) by omega,u64_or_nat _ _ (by omega) (by omega),or_shift _ _ hx hy];simp [val]
 | _ :: _ :: _ :: _,hl=>simp at hl;omega
theorem wat_one (w:World) (x:Nat) (hx:x<4294967296) (t:TypeId) (b:Nat) (hb:w.heap[b]?=some (.cells #[.int .u32 (x:Int)] t (0,0))) (base:Nat) (h:base≤b) :
  Wat w (some ⟨b,0,none⟩) 1 [x]∧Fresh base w (some ⟨b,0,none⟩) 1:=by
 have hlt:b<w.heap.size:=by
  rcases Nat.lt_or_ge b w.heap.size with hlt|hge
  ·exact hlt
  ·rw [Array.getElem?_eq_none hge] at hb;cases hb
 refine ⟨⟨rfl,Ws.cons hx Ws.nil,fun _=>⟨b,0,rfl,hlt,fun j hj=>?_⟩⟩,fun _=>⟨b,0,rfl,h,fun j hj=>?_⟩⟩
 ·obtain rfl:j=0:=by omega
  simp [World.cell?,hb]
 ·simp [World.frozen?,hb]
theorem wat_two (w:World) (x y:Nat) (hx:x<4294967296) (hy:y<4294967296) (t:TypeId) (b:Nat) (hb:w.heap[b]?=some (.cells #[.int .u32 (x:Int),.int .u32 (y:Int)] t (0,0))) (base:Nat) (h:base≤b) :
  Wat w (some ⟨b,0,none⟩) 2 [x,y]∧Fresh base w (some ⟨b,0,none⟩) 2:=by
 have hlt:b<w.heap.size:=by
  rcases Nat.lt_or_ge b w.heap.size with hlt|hge
  ·exact hlt
  ·rw [Array.getElem?_eq_none hge] at hb;cases hb
 refine ⟨⟨rfl,Ws.cons hx (Ws.cons hy Ws.nil),fun _=>⟨b,0,rfl,hlt,fun j hj=>?_⟩⟩,fun _=>⟨b,0,rfl,h,fun j hj=>?_⟩⟩
 ·rcases (by omega:j=0∨j=1) with rfl|rfl<;>simp [World.cell?,hb]
 ·simp [World.frozen?,hb]
theorem small_any (neg:Bool) (n:Nat) (w:World) (hn:n<18446744073709551616) :
  Calls Tryz.prog 135 #[.bool neg,.int .u64 (n:Int)] w (RetZ w (sg neg n)):=by
 by_cases h0:n=0
 ·subst h0;go_enter Tryz.func135,Tryz.ntmps135;go_wp2;refine bodyPost_ret (v:=.agg #[.bool false,.slice none 0 0]) (by simp [results,Tryz.results135,go_sem]) rfl ⟨none,0,0,?_,Nat.le_refl _,?_,Fresh.nil,(Below.refl _ _).alloc (Nat.le_refl _) _⟩
  ·rw [sg_zero];rfl
  ·rw [sg_zero];simp [digs_zero,Wat.nil]
 ·have e1:=sg_neg (neg:=neg) h0;have e2:=sg_natAbs neg n;have E1:=Hj e1;have E2:=Hj e2;clear e1 e2;by_cases h1:n<4294967296
  ·have hne:((n:Int) == 0)=false:=by simpa using h0
   have hsh:((n:Int) / 4294967296 == 0)=true:=by simp;omega
   go_enter Tryz.func135,Tryz.ntmps135;go_wp2;have hw2:=wat_one ((w.alloc (Obj.cells #[Value.bool neg,Value.slice (some { block:=w.heap.size+1,off:=0 }) 1 1] 40)).alloc (Obj.cells #[Value.int IntKind.u32 (n:Int)] 59)) n h1 59 (w.heap.size+1) (heap_new2 _ _ _) w.heap.size (by omega);refine bodyPost_ret (v:=.agg #[.bool neg,.slice (some ⟨w.heap.size+1,0,none⟩) 1 1]) (by simp [results,Tryz.results135,go_sem]) rfl ⟨_,1,1,by rw [E1.out],Nat.le_refl _,?_,hw2.2,((Below.refl _ _).alloc (Nat.le_refl _) _).alloc (by simp) _⟩;rw [E2.out,digs_small h0 h1];exact hw2.1
  ·have hne:((n:Int) == 0)=false:=by simpa using h0
   have hsh:((n:Int) / 4294967296 == 0)=false:=by simp;omega
   go_enter Tryz.func135,Tryz.ntmps135;go_wp2;have hw2:=wat_two ((w.alloc (Obj.cells #[Value.bool neg,Value.slice (some { block:=w.heap.size+1,off:=0 }) 2 2] 40)).alloc (Obj.cells #[Value.int IntKind.u32 ((n:Int) % 4294967296),Value.int IntKind.u32 ((n:Int) / 4294967296)] 59)) (n % 4294967296) (n / 4294967296) (by omega) (by omega) 59 (w.heap.size+1) (heap_new2 _ _ _) w.heap.size (by omega);refine bodyPost_ret (v:=.agg #[.bool neg,.slice (some ⟨w.heap.size+1,0,none⟩) 2 2]) (by simp [results,Tryz.results135,go_sem]) rfl ⟨_,2,2,by rw [E1.out],Nat.le_refl _,?_,hw2.2,((Below.refl _ _).alloc (Nat.le_refl _) _).alloc (by simp) _⟩;rw [E2.out,digs_two (by omega) hn];exact hw2.1
def RetIn (w:World) (A:Option Addr) (c:Nat) (z:Int) (e:Ending) (w':World):Prop :=
 ∃ A' c',e=.returned (.agg #[.bool (decide (z<0)),.slice A' (digs z.natAbs).length c'])∧(z≠0→A'=A∧c'=c)∧(z=0→A'=none∧c'=0)∧Below w.heap.size w w'
theorem build_any (neg:Bool) (A:Option Addr) (n c:Nat) (l:List Nat) (w:World) (h:Wat w A n l) (hnc:n≤c) (hm:n≤9223372036854775807) :
  Calls Tryz.prog 144 #[.bool neg,.slice A n c] w (RetIn w A c (sg neg (val l))):=by
 by_cases h0:val l=0
 ·have H0:=Hj h0;clear h0;go_enter Tryz.func144,Tryz.ntmps144
  go_wp2_with fail
  refine (trim_any A n c l _ (h.alloc _) hnc hm).mono ?_;rw [H0.out,digs_zero];rintro e w' ⟨rfl,rfl⟩;go_wp2;refine bodyPost_ret (v:=.agg #[.bool false,.slice none 0 0]) (by simp [results,Tryz.results144,go_sem]) rfl ⟨none,0,?_,fun hh=>absurd (by rw [H0.out,sg_zero]) hh,fun _=>⟨rfl,rfl⟩,(Below.refl _ _).alloc (Nat.le_refl _) _⟩;rw [H0.out,sg_zero];simp [digs_zero]
 ·have e1:=sg_neg (neg:=neg) h0;have e2:=sg_natAbs neg (val l);have E1:=Hj e1;have E2:=Hj e2;have hlen:(digs (val l)).length≠0:=fun hh=>h0 (digs_nil (List.eq_nil_of_length_eq_zero hh));have hle:(digs (val l)).length≤n:=by
   have:=digs_len_le.2 (val_lt h.2.1);rw [h.1] at this;exact this
  clear e1 e2;generalize hk:(digs (val l)).length=k at *;have HK:=Hj hk;clear hk;have hk0:((k:Int) == 0)=false:=by simpa using hlen
  go_enter Tryz.func144,Tryz.ntmps144
  go_wp2_with fail
  refine (trim_any A n c l _ (h.alloc _) hnc hm).mono ?_;rw [HK.out];rintro e w' ⟨rfl,rfl⟩;go_wp2;refine bodyPost_ret (v:=.agg #[.bool neg,.slice A k c]) (by simp [results,Tryz.results144,go_sem]) rfl ⟨A,c,?_,fun _=>⟨rfl,rfl⟩,fun hh=>?_,(Below.refl _ _).alloc (Nat.le_refl _) _⟩
  ·rw [E1.out,E2.out,HK.out]
  ·have:=congrArg Int.natAbs hh;rw [E2.out] at this;exact absurd this h0
def cmpI (a b:Int):Int:=if a<b then -1 else if b<a then 1 else 0
theorem cmpI_lt {a b:Int} (h:a<b):cmpI a b = -1:=by unfold cmpI;rw [if_pos h]
theorem cmpI_gt {a b:Int} (h:b<a):cmpI a b=1:=by unfold cmpI;rw [if_neg (by omega),if_pos h]
theorem cmpI_eq {a b:Int} (h:a=b):cmpI a b=0:=by unfold cmpI;rw [if_neg (by omega),if_neg (by omega)]
theorem len_lt_of {a b:Nat} (h:(digs a).length<(digs b).length):a<b:=by
 have h1:=digs_len_lt.1 (Nat.lt_of_lt_of_le (Nat.lt_succ_self _) h:(digs b).length > (digs a).length);have h2:=digs_len_le.1 (Nat.le_refl (digs a).length);omega
theorem compareWords_any (A A':Option Addr) (n n' c c':Nat) (x y:Nat) (w:World) (h:Wat w A n (digs x)) (h':Wat w A' n' (digs y)) (hm:n≤9223372036854775807) (hm':n'≤9223372036854775807) :
  Calls Tryz.prog 142 #[.slice A n c,.slice A' n' c'] w fun e w'=>e=.returned (.int .i64 (cmpI x y))∧∃ k,w'=w.drewN k:=by
 obtain ⟨hl,hws,hc⟩:=h;obtain ⟨hl',hws',hc'⟩:=h';by_cases hlt:n<n'
 ·have hv:=len_lt_of (a:=x) (b:=y) (by omega);have e:cmpI x y = -1:=cmpI_lt (by omega);have hne:((n:Int) != (n':Int))=true:=by simp;omega
  clear hl hl' hc hc';rw [e];go_enter Tryz.func142,Tryz.ntmps142;go_wp2;go_ret;exact ⟨rfl,0,rfl⟩
 ·by_cases hgt:n'<n
  ·have hv:=len_lt_of (a:=y) (b:=x) (by omega);have e:cmpI x y=1:=cmpI_gt (by omega);have hne:((n:Int) != (n':Int))=true:=by simp;omega
   clear hl hl' hc hc';rw [e];go_enter Tryz.func142,Tryz.ntmps142;go_wp2;go_ret;exact ⟨rfl,0,rfl⟩
  ·obtain rfl:n'=n:=by omega
   have HL:=Hj hl;have HL':=Hj hl';have hne:((n':Int) != (n':Int))=false:=by simp
   clear hlt hgt hl hl';go_enter Tryz.func142,Tryz.ntmps142;go_wp2
   go_loopw [5] (fun i wr=>∃ (k q:Nat),k≤n'∧i=.int .i64 ((k:Int)-1)∧wr=w.drewN q∧Hid (∀ j,k≤j→(digs x)[j]?.getD 0=(digs y)[j]?.getD 0)) (fun i _=>(intOf i+1).toNat)
   case atStart =>
    refine ⟨n',0,Nat.le_refl _,rfl,rfl,fun j hj=>?_⟩;rw [List.getElem?_eq_none (by have:=HL.out;omega),List.getElem?_eq_none (by have:=HL'.out;omega)]
   case round =>
    obtain ⟨k,q,hk,rfl,rfl,hu⟩:=hrel;by_cases h0:k=0
    ·subst h0;have e:cmpI x y=0:=by
      have hxy:digs x=digs y:=by
       apply List.ext_getElem (HL.out.trans HL'.out.symm);intro j h1 h2;have:=hu.out j (Nat.zero_le _);rw [List.getElem?_eq_getElem h1,List.getElem?_eq_getElem h2] at this;simpa using this
      have:=congrArg val hxy;rw [val_digs,val_digs] at this;exact cmpI_eq (by omega)
     have E:=Hj e;clear e;go_wp2;go_ret;rw [E.out];exact ⟨rfl,_,rfl⟩
    ·obtain ⟨k,rfl⟩:∃ j,k=j+1:=⟨k-1,by omega⟩;obtain ⟨b,o,rfl,hb,hcell⟩:=hc (by omega);obtain ⟨b',o',rfl,hb',hcell'⟩:=hc' (by omega);have hck:=hcell k (by omega);have hck':=hcell' k (by omega);clear hcell hcell' hc hc' h0;rw [show ((k+1:Nat):Int)-1=(k:Int) by omega];generalize hp:(digs x)[k]?.getD 0=p at *;generalize hq:(digs y)[k]?.getD 0=p' at *;have HP:=Hj hp;have HQ:=Hj hq;have kx:k<(digs x).length:=by have:=HL.out;omega
     have ky:k<(digs y).length:=by have:=HL'.out;omega
     have px:(digs x)[k]=p:=by rw [List.getElem?_eq_getElem kx] at hp;exact hp
     have py:(digs y)[k]=p':=by rw [List.getElem?_eq_getElem ky] at hq;exact hq
     have PX:=Hj px;have PY:=Hj py;clear hp hq px py;have hi0:(0:Int)≤(k:Int):=by omega
     have hi1:(k:Int)<(n':Int):=by omega
     rcases Nat.lt_trichotomy p p' with hlt|heq|hgt
     ·have hv:x<y:=by
       have:=val_lt_of_top hws k kx ky (by rw [PX.out,PY.out];exact hlt) (fun j hj=>hu.out j hj) (HL.out.trans HL'.out.symm)
       rwa [val_digs,val_digs] at this
      have e:cmpI x y = -1:=cmpI_lt (by omega);have E:=Hj e;clear e hv;have hb1:((p:Int) != (p':Int))=true:=by simp;omega
      go_wp2
      go_quiet (fail)
      go_wp2
      go_quiet (fail)
      go_wp2;go_ret;rw [E.out];exact ⟨rfl,_,by rw [World.drewN_drewN,World.drewN_drewN]⟩
     ·subst heq;have hb1:((p:Int) != (p:Int))=false:=by simp
      go_wp2
      go_quiet (fail)
      go_wp2;go_roundw
      case rel =>
       refine ⟨k,_,by omega,rfl,rfl,fun j hj=>?_⟩;rcases Nat.eq_or_lt_of_le hj with rfl|hj
       ·rw [HP.out,HQ.out]
       ·exact hu.out j hj
      case measure=>simp [intOf]
     ·have hv:y<x:=by
       have:=val_lt_of_top hws' k ky kx (by rw [PX.out,PY.out];exact hgt) (fun j hj=>(hu.out j hj).symm) (HL'.out.trans HL.out.symm)
       rwa [val_digs,val_digs] at this
      have e:cmpI x y=1:=cmpI_gt (by omega);have E:=Hj e;clear e hv;have hb1:((p:Int) != (p':Int))=true:=by simp;omega
      go_wp2
      go_quiet (fail)
      go_wp2
      go_quiet (fail)
      go_wp2;go_ret;rw [E.out];exact ⟨rfl,_,by rw [World.drewN_drewN,World.drewN_drewN]⟩
end Go.Proofs.YtjajigkacccdgaaGreat
