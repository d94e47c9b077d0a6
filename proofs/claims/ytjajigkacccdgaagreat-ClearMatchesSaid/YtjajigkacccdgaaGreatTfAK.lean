/-
Lemmas of the walk; no further conditions.
-/
import Derived.Test.YtjajigkacccdgaaGreatTfAB
import Derived.Deep.AppendLies
import Derived.Deep.RegionLaw
import Derived.Laws.OwnMore
import Derived.Maps.RangeRun
import Derived.WideMake
set_option linter.unusedVariables false
set_option linter.unusedSimpArgs false
set_option maxRecDepth 100000
set_option maxHeartbeats 16000000
namespace Go.Proofs.YtjajigkacccdgaaGreat
open Go.RowKit
open Wd
def SrcAt (w:World) (A:Option Addr) (m size:Nat) (news:List Value):Prop :=
 news.length=m*size∧(∀ u∈news,u.oneCell'=true)∧((A=none∧m=0)∨∃ ad,A=some ad∧∀ j u,news[j]?=some u→w.cell? (ad.add j)=some u)
def Own (base:Nat) (e:TypeId) (size:Nat) (w:World) (A:Option Addr) (n c:Nat) (xs:List Value):Prop:=w.ownsRow base e size (.slice A n c) n xs
def Kept (w w':World) (A:Option Addr):Prop:=w.heap.size≤w'.heap.size∧∀ k,k<w.heap.size→A.map (fun a=>a.block)≠some k→w'.heap[k]?=w.heap[k]?
theorem run_append_my {P:Program} {w:World} {base:Nat} {t ty e:TypeId} {i:TypeInfo} {z:Value} {size bytes:Nat} (ht:P.underlying t=some (.slice e)) (hi:P.info? e=some i) (hz:i.zero=some z)
  (hsize:i.size=size) (hby:i.bytes=bytes) (hzs:z.cells.size=size) (hsz:0<size)
  {B:Option Addr} {n cb:Nat} {xs:List Value} (hown:Own base e size w B n cb xs) {A:Option Addr} {m c:Nat} {news:List Value} (hs:SrcAt w A m size news)
  (h63:n+m≤maxLen) (hbytes:(n+m)*bytes≤140737488355328) (hbase:base≤w.heap.size) :
  ∃ B' cb' w',(Builtin.append_ #[t,t] ty #[.slice B n cb,.slice A m c]).run P w=.ok (.slice B' (n+m) cb') w'∧Own base e size w' B' (n+m) cb' (xs ++ news)∧Below base w w'∧Kept w w' B:=by
 obtain ⟨h1,h2,h3⟩:=hs;rcases h3 with ⟨rfl,rfl⟩|⟨ad,rfl,h3⟩
 ·have e1:news=[]:=List.eq_nil_of_length_eq_zero (by simpa using h1);subst e1;refine ⟨B,cb,w,?_,by simpa using hown,Below.refl _ _,Nat.le_refl _,fun _ _ _=>rfl⟩;have hle:n≤cb:=by
   rcases hown.2 with ⟨h4,_⟩|⟨g,cap,cur,h4,_,_,hnc,_⟩
   ·simp at h4;omega
   ·simp at h4;omega
  rcases hown.2 with ⟨h4,h5⟩|⟨g,cap,cur,h4,_,_,hnc,_⟩
  ·simp at h4;obtain ⟨rfl,rfl,rfl⟩:=h4;simp [Builtin.append_,run_underlying ht,sizeOf,typeInfo,hi,Builtin.lenOf,Builtin.firstCells]
  ·simp at h4;obtain ⟨rfl,rfl⟩:=h4;simp [Builtin.append_,run_underlying ht,sizeOf,typeInfo,hi,Builtin.lenOf,Builtin.firstCells,hnc,storeCells]
 ·obtain ⟨v',w',hr,ho,hg,_⟩:=run_append_own (P:=P) w base t ty e i z size bytes ht hi hz hsize hby hzs hsz _ n xs hown ad m c news h1 h3 h2 h63 hbytes hbase;have hB:Below base w w':=⟨hg.os,hg.tape,hg.output,hg.size,fun k hk=>hg.block k (by omega) fun he=>by have:=(hown.lt k he.symm).1;omega⟩;have hK:Kept w w' B:=⟨hg.size,fun k hk hne=>hg.block k hk fun he=>hne (by
   cases B with
   | none=>simp [Value.ownBlock] at he
   | some b=>simpa [Value.ownBlock] using he.symm)⟩
  rcases ho.2 with ⟨rfl,h5⟩|⟨g,cap,cur,rfl,_⟩
  ·exact ⟨none,0,w',by rw [hr,h5],by rw [h5] at ho ⊢;exact ho,hB,hK⟩
  ·exact ⟨some ⟨g,0,none⟩,cap,w',hr,ho,hB,hK⟩
theorem wp_append_my {P:Program} {w:World} {o:Oper} {a:Act} {K:Act→World→Prop} {Q:Exit→Act→World→Prop} (s x:Operand) (t:TypeId)
  (ho:o.op=.call { callee:=.builtin .append,args:=#[s,x],argTypes:=#[t,t] })
  {base:Nat} {e:TypeId} {i:TypeInfo} {z:Value} {size bytes:Nat} (ht:P.underlying t=some (.slice e)) (hi:P.info? e=some i) (hz:i.zero=some z)
  (hsize:i.size=size) (hby:i.bytes=bytes) (hzs:z.cells.size=size) (hsz:0<size)
  {B:Option Addr} {n cb:Nat} {xs:List Value} (hss:a.eval s=.slice B n cb) (hown:Own base e size w B n cb xs) {A:Option Addr} {m c:Nat} {news:List Value} (hx:a.eval x=.slice A m c) (hs:SrcAt w A m size news)
  (h63:n+m≤maxLen) (hbytes:(n+m)*bytes≤140737488355328) (hbase:base≤w.heap.size)
  (h:∀ B' cb' w',Own base e size w' B' (n+m) cb' (xs ++ news)→Below base w w'→Kept w w' B→K (a.put o.dst (.slice B' (n+m) cb')) w'):o.wp P a w K Q:=by
 obtain ⟨B',cb',w',hr,h2,h3,h4⟩:=run_append_my (P:=P) (ty:=o.type) (c:=c) ht hi hz hsize hby hzs hsz hown hs h63 hbytes hbase;unfold Oper.wp execOp;simp only [ho,resolve,invoke,builtin,Sem.run_bind,Sem.run_pure,Result.andThen_ok,List.map_toArray,List.map_cons,List.map_nil,hss,hx,hr];exact h B' cb' w' h2 h3 h4
theorem step_append_my {P:Program} {w:World} {ops:Array Oper} {o:Oper} {a:Act} {K:Act→World→Prop} {Q:Exit→Act→World→Prop} {E:Prop} (hw:Region.wanted o (yielded ops a.tmps)=true) (s x:Operand) (t:TypeId)
  (ho:o.op=.call { callee:=.builtin .append,args:=#[s,x],argTypes:=#[t,t] })
  {base:Nat} {e:TypeId} {i:TypeInfo} {z:Value} {size bytes:Nat} (ht:P.underlying t=some (.slice e)) (hi:P.info? e=some i) (hz:i.zero=some z)
  (hsize:i.size=size) (hby:i.bytes=bytes) (hzs:z.cells.size=size) (hsz:0<size)
  {B:Option Addr} {n cb:Nat} {xs:List Value} (hss:a.eval s=.slice B n cb) (hown:Own base e size w B n cb xs) {A:Option Addr} {m c:Nat} {news:List Value} (hx:a.eval x=.slice A m c) (hs:SrcAt w A m size news)
  (h63:n+m≤maxLen) (hbytes:(n+m)*bytes≤140737488355328) (hbase:base≤w.heap.size)
  (h:∀ B' cb' w',Own base e size w' B' (n+m) cb' (xs ++ news)→Below base w w'→Kept w w' B→K (a.put o.dst (.slice B' (n+m) cb')) w') :
  if Region.wanted o (yielded ops a.tmps)=true then Oper.wp P o a w K Q else E:=by
 rw [if_pos hw];exact wp_append_my s x t ho ht hi hz hsize hby hzs hsz hss hown hx hs h63 hbytes hbase h
theorem Own.keep {base:Nat} {e:TypeId} {size:Nat} {w w':World} {A:Option Addr} {n c:Nat} {xs:List Value} (h:Own base e size w A n c xs) (hb:Below w.heap.size w w'):Own base e size w' A n c xs:=by
 refine ⟨h.1,?_⟩;rcases h.2 with h2|⟨g,cap,cur,h2,h3,h4,h5⟩
 ·exact Or.inl h2
 ·exact Or.inr ⟨g,cap,cur,h2,h3,(hb.block g (Array.getElem?_eq_some_iff.1 h4).1).trans h4,h5⟩
theorem SrcAt.below {w w':World} {A:Option Addr} {m size:Nat} {news:List Value} (h:SrcAt w A m size news) (hb:Below w.heap.size w w'):SrcAt w' A m size news:=by
 refine ⟨h.1,h.2.1,?_⟩;rcases h.2.2 with h3|⟨ad,h3,h4⟩
 ·exact Or.inl h3
 ·exact Or.inr ⟨ad,h3,fun j u hu=>(hb.cell (World.block_lt_of_cell? w _ (h4 j u hu))).trans (h4 j u hu)⟩
theorem slice_lo {P:Program} {t e:TypeId} (ht:P.underlying t=some (.slice e)) {i:TypeInfo} (hi:P.info? e=some i) (A:Option Addr) (n c j:Nat) (hj:j≤c) :
  ∃ A1,(∀ W,(Instr.sliceAt t (.slice A n c) none (some (.int .i64 (j:Int))) none).run P W=.ok (.slice A1 j c) W)∧∀ b o,A=some ⟨b,o,none⟩→A1=some ⟨b,o,none⟩:=by
 refine ⟨if c=0 then A else A.map (·.add 0),fun W=>?_,?_⟩
 ·simp [Instr.sliceAt,Instr.slice,run_underlying ht,go_sem,hj,sizeOf,typeInfo,hi]
 ·rintro b o rfl;simp [addr_add]
theorem Kept.blk {w w':World} {A:Option Addr} {g:Nat} {t:TypeId} {cs:Array Value} (h:Kept w w' A) (hb:Blk w g t cs) (hne:A.map (fun a=>a.block)≠some g):Blk w' g t cs:=(h.2 g hb.lt hne).trans hb
theorem Blk.src {w:World} {g:Nat} {t:TypeId} {cs:Array Value} {m size:Nat} (h:Blk w g t cs) (hs:cs.size=m*size) (h1:∀ u∈cs.toList,u.oneCell'=true):SrcAt w (some ⟨g,0,none⟩) m size cs.toList :=
 ⟨by simpa using hs,h1,Or.inr ⟨_,rfl,World.news_of_block h⟩⟩
theorem Own.nil (base:Nat) (e:TypeId) (size:Nat) (w:World):Own base e size w none 0 0 []:=⟨by simp,Or.inl ⟨rfl,rfl⟩⟩
theorem Own.aside {base:Nat} {e:TypeId} {size:Nat} {w:World} {A:Option Addr} {n c:Nat} {xs:List Value} (h:Own base e size w A n c xs) {p:Addr} (hp:p.block<base) (v:Value):Own base e size (w.setCell p v) A n c xs:=by
 refine ⟨h.1,?_⟩;rcases h.2 with h2|⟨g,cap,cur,h2,h3,h4,h5⟩
 ·exact Or.inl h2
 ·exact Or.inr ⟨g,cap,cur,h2,h3,Blk.far (t:=e) (cs:=cur) h4 (by omega) v,h5⟩
theorem wpList_append_my {P:Program} {w:World} {ops:Array Oper} {rest:List Oper} {o:Oper} {a:Act} {Q:Exit→Act→World→Prop} (hg:o.guard=none) (s x:Operand) (t:TypeId)
  (ho:o.op=.call { callee:=.builtin .append,args:=#[s,x],argTypes:=#[t,t] })
  {base:Nat} {e:TypeId} {i:TypeInfo} {z:Value} {size bytes:Nat} (ht:P.underlying t=some (.slice e)) (hi:P.info? e=some i) (hz:i.zero=some z)
  (hsize:i.size=size) (hby:i.bytes=bytes) (hzs:z.cells.size=size) (hsz:0<size)
  {B:Option Addr} {n cb:Nat} {xs:List Value} (hss:a.eval s=.slice B n cb) (hown:Own base e size w B n cb xs) {A:Option Addr} {m c:Nat} {news:List Value} (hx:a.eval x=.slice A m c) (hs:SrcAt w A m size news)
  (h63:n+m≤maxLen) (hbytes:(n+m)*bytes≤140737488355328) (hbase:base≤w.heap.size)
  (h:∀ B' cb' w',Own base e size w' B' (n+m) cb' (xs ++ news)→Below base w w'→Kept w w' B→wpList P ops Q rest (a.put o.dst (.slice B' (n+m) cb')) w') :
  wpList P ops Q (o :: rest) a w :=
 wpList_plain hg fun K hK=>wp_append_my s x t ho ht hi hz hsize hby hzs hsz hss hown hx hs h63 hbytes hbase fun B' cb' w' h1 h2 h3=>hK _ _ (h B' cb' w' h1 h2 h3)
theorem Kp.alloc {W w':World} (h:Kp W w') (o:Obj):Kp W (w'.alloc o):=Below.alloc h (Below.size h) o
theorem Kp.set {W w':World} (h:Kp W w') {p:Addr} (hp:W.heap.size≤p.block) (v:Value):Kp W (w'.setCell p v):=Below.setCell h hp v
theorem Blk.three {w:World} {g:Nat} {t:TypeId} {a b c:Value} (h:Blk w g t #[a,b,c]):w.cell? ⟨g,0,none⟩=some a∧w.cell? ⟨g,1,none⟩=some b∧w.cell? ⟨g,2,none⟩=some c:=⟨h.cell 0,h.cell 1,h.cell 2⟩
theorem getD_mem {α:Type} {l:List α} {k:Nat} {d:α} (h:k<l.length):l[k]?.getD d∈l:=by
 rw [List.getElem?_eq_getElem h];exact List.getElem_mem h
def IsAt (w:World) (A:Option Addr) (n:Nat) (xs:List Int):Prop :=
 xs.length=n∧(n≠0→∃ b o,A=some ⟨b,o,none⟩∧b<w.heap.size∧∀ j,j<n→w.cell? ⟨b,o+j,none⟩=some (.int .i64 (xs[j]?.getD 0)))
theorem IsAt.below {w w':World} {A:Option Addr} {n:Nat} {xs:List Int} (h:IsAt w A n xs) (hb:Below w.heap.size w w'):IsAt w' A n xs:=by
 refine ⟨h.1,fun hn=>?_⟩;obtain ⟨b,o,rfl,hlt,hc⟩:=h.2 hn;exact ⟨b,o,rfl,Nat.lt_of_lt_of_le hlt hb.size,fun j hj=>(hb.cell hlt).trans (hc j hj)⟩
theorem IsAt.src {w:World} {A:Option Addr} {n:Nat} {xs:List Int} (h:IsAt w A n xs):SrcAt w A n 1 (xs.map (Value.int .i64)):=by
 refine ⟨by simp [h.1],fun u hu=>by obtain ⟨x,_,rfl⟩:=List.mem_map.1 hu;rfl,?_⟩;by_cases hn:n=0
 ·subst hn;have e:xs=[]:=List.eq_nil_of_length_eq_zero h.1;subst e;cases A with
  | none=>exact Or.inl ⟨rfl,rfl⟩
  | some ad=>exact Or.inr ⟨ad,rfl,by simp⟩
 ·obtain ⟨b,o,rfl,hlt,hc⟩:=h.2 hn;refine Or.inr ⟨_,rfl,fun j u hu=>?_⟩;have hj:j<xs.length:=by
   have:=(List.getElem?_eq_some_iff.1 hu).1;simpa using this
  rw [addr_add,hc j (by have:=h.1;omega),← hu];simp [hj]
theorem Own.ints {base:Nat} {e:TypeId} {w:World} {A:Option Addr} {n c:Nat} {xs:List Int} (h:Own base e 1 w A n c (xs.map (Value.int .i64))):IsAt w A n xs:=by
 have hl:xs.length=n:=by have:=h.1;simpa using this
 refine ⟨hl,fun hn=>?_⟩;obtain ⟨g,cap,hv,hb,hlt⟩:=World.ownsRow.form h (by omega);simp at hv;obtain ⟨rfl,rfl⟩:=hv;refine ⟨g,0,rfl,hlt,fun j hj=>?_⟩;rw [Nat.zero_add,World.ownsRow.cellAt h j (by omega)];simp [show j<xs.length by omega]
def IRow (w:World) (g:Nat) (xs:List Int):Prop:=Blk w g 2 (xs.map (Value.int .i64)).toArray
theorem IRow.cell {w:World} {g:Nat} {xs:List Int} (h:IRow w g xs) {i:Nat} (hi:i<xs.length):w.cell? ⟨g,i,none⟩=some (.int .i64 (xs[i]?.getD 0)):=by
 rw [Blk.cell h i];simp [hi]
theorem IRow.frozen {w:World} {g:Nat} {xs:List Int} (h:IRow w g xs) (i:Nat):w.frozen? ⟨g,i,none⟩=false:=Blk.frozen h i
theorem IRow.set {w:World} {g:Nat} {xs:List Int} (h:IRow w g xs) (i:Nat) (v:Int):IRow (w.setCell ⟨g,i,none⟩ (.int .i64 v)) g (xs.set i v):=by
 have:=Blk.set h i (.int .i64 v);unfold IRow;simpa [List.map_set] using this
theorem IRow.below {w w':World} {g:Nat} {xs:List Int} (h:IRow w g xs) (hb:Below w.heap.size w w'):IRow w' g xs:=Blk.below h hb (Blk.lt h)
theorem IRow.alloc {w:World} {g:Nat} {xs:List Int} (h:IRow w g xs) (o:Obj):IRow (w.alloc o) g xs:=Blk.alloc h o
theorem IRow.start (w:World) (n:Nat):IRow (w.alloc (.cells (Array.replicate n (.int .i64 0)) 2)) w.heap.size (List.replicate n 0):=by
 unfold IRow;have:=Blk.new w 2 (Array.replicate n (.int .i64 0));simpa using this
theorem IRow.at {w:World} {g:Nat} {xs:List Int} {n:Nat} (h:IRow w g xs) (hl:xs.length=n):IsAt w (some ⟨g,0,none⟩) n xs :=
 ⟨hl,fun _=>⟨g,0,rfl,Blk.lt h,fun j hj=>by rw [Nat.zero_add];exact h.cell (by omega)⟩⟩
theorem made_ints (n:Nat):madeCells #[.int .i64 0] n=((List.replicate n (0:Int)).map (Value.int .i64)).toArray:=by
 apply Array.ext
 ·simp [size_madeCells]
 ·intro i h1 h2;simp [madeCells,Nat.mod_one]
theorem info_int64:(Tryz.prog.info? 2).map (fun i=>(i.zero,i.size,i.bytes))=some (some (.int .i64 0),1,8):=by kernel_rfl
theorem run_make_ints (k:Nat) (hk:k≤1000000000) (w:World) :
  (Instr.makeSlice 62 (.int .i64 (k:Int)) (.int .i64 (k:Int))).run Tryz.prog w=.ok (.slice (some ⟨w.heap.size,0,none⟩) k k) (w.alloc (.cells ((List.replicate k (0:Int)).map (Value.int .i64)).toArray 2)):=by
 obtain ⟨i0,hi,hz0,hz1,hz2⟩:=info_parts info_int64;have h:=run_make (P:=Tryz.prog) w 62 2 i0 _ Tryz.underlying62 hi hz0 .i64 .i64 k k (by omega) (Int.le_refl _) (by rw [hz2];omega) (by omega);rw [h,hz1];simp only [Int.toNat_natCast,Value.cells,Nat.mul_one];rw [made_ints]
namespace St
abbrev Tr:=Nat×Int×Int
def tri:Nat→List (List (Int×Int))→List Tr
 | _,[]=>[]
 | k,l :: ls=>l.map (fun s=>(k,s.1,s.2)) ++ tri (k+1) ls
def qty:List Tr→Int→Int
 | [],_=>0
 | t :: T,p=>(if t.2.2=p then t.2.1 else 0)+qty T p
def part:List Tr→Int→Nat→Int
 | [],_,_=>0
 | t :: T,p,i=>(if t.2.2=p∧t.1=i then t.2.1 else 0)+part T p i
def parts (n:Nat) (T:List Tr) (p:Int):List Int:=(List.range n).map (part T p)
def addP (ps:List Int) (p:Int):List Int:=if p∈ps then ps else ps ++ [p]
def pr (T:List Tr):List Int:=T.foldl (fun a t=>addP a t.2.2) []
theorem qty_app:∀ (T S:List Tr) (p:Int),qty (T ++ S) p=qty T p+qty S p
 | [],S,p=>by simp [qty]
 | t :: T,S,p=>by rw [List.cons_append,qty,qty,qty_app T S p];omega
theorem part_app:∀ (T S:List Tr) (p:Int) (i:Nat),part (T ++ S) p i=part T p i+part S p i
 | [],S,p,i=>by simp [part]
 | t :: T,S,p,i=>by rw [List.cons_append,part,part,part_app T S p i];omega
theorem parts_len (n:Nat) (T:List Tr) (p:Int):(parts n T p).length=n:=by simp [parts]
theorem parts_get {n:Nat} {T:List Tr} {p:Int} {i:Nat} (hi:i<n):(parts n T p)[i]?.getD 0=part T p i:=by simp [parts,hi]
theorem ext_getD {xs ys:List Int} (hl:xs.length=ys.length) (h:∀ i,i<xs.length→xs[i]?.getD 0=ys[i]?.getD 0):xs=ys:=by
 apply List.ext_getElem hl;intro i hi hj;have:=h i hi;rw [List.getElem?_eq_getElem hi,List.getElem?_eq_getElem hj] at this;exact this
theorem parts_snoc {n:Nat} {T:List Tr} {i:Nat} {q p:Int} (hi:i<n) (p':Int):parts n (T ++ [(i,q,p)]) p'=if p'=p then (parts n T p).set i ((parts n T p)[i]?.getD 0+q) else parts n T p':=by
 by_cases h:p'=p
 ·subst h;rw [if_pos rfl];refine ext_getD (by simp [parts]) fun j hj=>?_;have hj':j<n:=by simpa [parts] using hj
  rw [parts_get hj',part_app,parts_get hi,List.getElem?_set];by_cases hij:i=j
  ·subst hij;simp [part,parts_len,hi]
  ·rw [if_neg hij,parts_get hj'];simp [part,hij]
 ·rw [if_neg h];refine ext_getD (by simp [parts]) fun j hj=>?_;have hj':j<n:=by simpa [parts] using hj
  rw [parts_get hj',parts_get hj',part_app];have:¬ p=p':=fun e=>h e.symm;simp [part,this]
theorem qty_snoc {T:List Tr} {i:Nat} {q p:Int} (p':Int):qty (T ++ [(i,q,p)]) p'=if p'=p then qty T p+q else qty T p':=by
 rw [qty_app];by_cases h:p'=p
 ·subst h;simp [qty]
 ·have:¬ p=p':=fun e=>h e.symm;simp [qty,h,this]
theorem pr_snoc (T:List Tr) (t:Tr):pr (T ++ [t])=addP (pr T) t.2.2:=by simp [pr,List.foldl_append]
theorem mem_addP {ps:List Int} {p x:Int}:x∈addP ps p↔x∈ps∨x=p:=by
 unfold addP;split
 ·constructor
  ·exact Or.inl
  ·rintro (h|rfl)
   ·exact h
   ·assumption
 ·simp
theorem mem_fold:∀ (T:List Tr) (a:List Int) (x:Int),x∈T.foldl (fun a t=>addP a t.2.2) a↔x∈a∨∃ t∈T,t.2.2=x
 | [],a,x=>by simp
 | t :: T,a,x=>by
  rw [List.foldl_cons,mem_fold T,mem_addP];constructor
  ·rintro ((h|h)|⟨s,h1,h2⟩)
   ·exact Or.inl h
   ·exact Or.inr ⟨t,List.mem_cons_self ..,h.symm⟩
   ·exact Or.inr ⟨s,List.mem_cons_of_mem _ h1,h2⟩
  ·rintro (h|⟨s,h1,h2⟩)
   ·exact Or.inl (Or.inl h)
   ·rcases List.mem_cons.1 h1 with rfl|h1
    ·exact Or.inl (Or.inr h2.symm)
    ·exact Or.inr ⟨s,h1,h2⟩
theorem mem_pr {T:List Tr} {x:Int}:x∈pr T↔∃ t∈T,t.2.2=x:=by
 unfold pr;rw [mem_fold];simp
theorem addP_nodup {ps:List Int} {p:Int} (h:ps.Nodup):(addP ps p).Nodup:=by
 unfold addP;split
 ·exact h
 ·rename_i hp
  rw [List.nodup_append];exact ⟨h,by simp,fun a ha b hb=>by simp at hb;subst hb;rintro rfl;exact hp ha⟩
theorem fold_nodup:∀ (T:List Tr) (a:List Int),a.Nodup→(T.foldl (fun a t=>addP a t.2.2) a).Nodup
 | [],a,h=>h
 | t :: T,a,h=>fold_nodup T _ (addP_nodup h)
theorem pr_nodup (T:List Tr):(pr T).Nodup:=fold_nodup T [] (by simp)
theorem qty_none {T:List Tr} {p:Int} (h:p ∉ pr T):qty T p=0:=by
 have:∀ (S:List Tr),(∀ t∈S,t.2.2≠p)→qty S p=0:=by
  intro S
  induction S with
  | nil=>intro _;rfl
  | cons t S ih =>
   intro hS;rw [qty,if_neg (hS t (List.mem_cons_self ..)),ih fun s hs=>hS s (List.mem_cons_of_mem _ hs)]
   rfl
 exact this T fun t ht e=>h (mem_pr.2 ⟨t,ht,e⟩)
theorem part_none {T:List Tr} {p:Int} {i:Nat} (h:p ∉ pr T):part T p i=0:=by
 have:∀ (S:List Tr),(∀ t∈S,t.2.2≠p)→part S p i=0:=by
  intro S
  induction S with
  | nil=>intro _;rfl
  | cons t S ih =>
   intro hS;rw [part,if_neg (fun e=>hS t (List.mem_cons_self ..) e.1),ih fun s hs=>hS s (List.mem_cons_of_mem _ hs)]
   rfl
 exact this T fun t ht e=>h (mem_pr.2 ⟨t,ht,e⟩)
theorem parts_none {n:Nat} {T:List Tr} {p:Int} (h:p ∉ pr T):parts n T p=List.replicate n 0:=by
 refine ext_getD (by simp [parts]) fun j hj=>?_;have hj':j<n:=by simpa [parts] using hj
 rw [parts_get hj',part_none h];simp [hj']
abbrev Lv:=Int×Int×List Int
def ltU (up:Bool) (a b:Int):Prop:=if up then a<b else b<a
def IsLv (up:Bool) (n:Nat) (T:List Tr) (lv:List Lv):Prop :=
 (lv.map (·.1)).Pairwise (ltU up)∧(∀ p,p∈lv.map (·.1)↔∃ t∈T,t.2.2=p)∧∀ x∈lv,x.2.1=qty T x.1∧x.2.2=parts n T x.1
theorem ltU_irr {up:Bool} {a:Int}:¬ ltU up a a:=by unfold ltU;split<;>omega
theorem ltU_asym {up:Bool} {a b:Int} (h:ltU up a b):¬ ltU up b a:=by unfold ltU at *;split at h<;>rename_i hu<;>simp [hu]<;>omega
theorem sorted_only {up:Bool}:∀ {xs ys:List Int},xs.Pairwise (ltU up)→ys.Pairwise (ltU up)→(∀ p,p∈xs↔p∈ys)→xs=ys
 | [],[],_,_,_=>rfl
 | [],y :: ys,_,_,h=>absurd ((h y).2 (List.mem_cons_self ..)) (by simp)
 | x :: xs,[],_,_,h=>absurd ((h x).1 (List.mem_cons_self ..)) (by simp)
 | x :: xs,y :: ys,hx,hy,h=>by
  obtain ⟨a1,a2⟩:=List.pairwise_cons.1 hx;obtain ⟨b1,b2⟩:=List.pairwise_cons.1 hy;have e:x=y:=by
   rcases List.mem_cons.1 ((h x).1 (List.mem_cons_self ..)) with e|hm
   ·exact e
   ·rcases List.mem_cons.1 ((h y).2 (List.mem_cons_self ..)) with e|hm'
    ·exact e.symm
    ·exact absurd (b1 x hm) (ltU_asym (a1 y hm'))
  subst e
  congr 1
  refine sorted_only a2 b2 fun p=>⟨fun hp=>?_,fun hp=>?_⟩
  ·rcases List.mem_cons.1 ((h p).1 (List.mem_cons_of_mem _ hp)) with e|hm
   ·subst e;exact absurd (a1 p hp) ltU_irr
   ·exact hm
  ·rcases List.mem_cons.1 ((h p).2 (List.mem_cons_of_mem _ hp)) with e|hm
   ·subst e;exact absurd (b1 p hp) ltU_irr
   ·exact hm
theorem IsLv.eq {up:Bool} {n:Nat} {T:List Tr} {lv:List Lv} (h:IsLv up n T lv):lv=(lv.map (·.1)).map fun p=>(p,qty T p,parts n T p):=by
 rw [List.map_map];have:∀ x∈lv,((fun p=>(p,qty T p,parts n T p)) ∘ fun x:Lv=>x.1) x=id x:=fun x hx=>by
  obtain ⟨h1,h2⟩:=h.2.2 x hx;simp only [Function.comp,id];rw [← h1,← h2]
 rw [List.map_congr_left this,List.map_id]
theorem IsLv.only {up:Bool} {n:Nat} {T:List Tr} {lv lv':List Lv} (h:IsLv up n T lv) (h':IsLv up n T lv'):lv=lv':=by
 have e:=sorted_only h.1 h'.1 fun p=>(h.2.1 p).trans (h'.2.1 p).symm;have e1:=h.eq;rw [e] at e1;rw [e1];exact h'.eq.symm
end St
end Go.Proofs.YtjajigkacccdgaaGreat
namespace Go.Proofs.YtjajigkacccdgaaGreat
open Go.RowKit
open Wd
open Go.ChangeMaps (setBlock)
theorem findNow_hit {p:Int}:∀ {es:List MapEntry} {j i:Nat} {e:MapEntry},es[j]?=some e→e.key=.int .i64 p→(∀ j',j'<j→∀ e',es[j']?=some e'→∃ q,e'.key=.int .i64 q∧q≠p)→Instr.findNow (.int .i64) (.int .i64 p) es i=some (some (i+j,e.val))
 | [],_,_,_,h,_,_=>by simp at h
 | e0 :: es,0,i,e,h,hk,_=>by
  simp at h;subst h;simp [Instr.findNow,Instr.sameNow,hk]
 | e0 :: es,j+1,i,e,h,hk,hn=>by
  obtain ⟨q,hq,hne⟩:=hn 0 (by omega) e0 rfl;have:(p == q)=false:=by simp;exact fun h=>hne h.symm
  rw [Instr.findNow,hq];simp only [Instr.sameNow,if_true,this];rw [findNow_hit (j:=j) (by simpa using h) hk fun j' hj' e' he'=>hn (j'+1) (by omega) e' (by simpa using he')];simp;omega
theorem findNow_miss {p:Int}:∀ {es:List MapEntry} {i:Nat},(∀ e∈es,∃ q,e.key=.int .i64 q∧q≠p)→Instr.findNow (.int .i64) (.int .i64 p) es i=some none
 | [],_,_=>rfl
 | e0 :: es,i,hn=>by
  obtain ⟨q,hq,hne⟩:=hn e0 (List.mem_cons_self ..);have:(p == q)=false:=by simp;exact fun h=>hne h.symm
  rw [Instr.findNow,hq];simp only [Instr.sameNow,if_true,this];exact findNow_miss fun e he=>hn e (List.mem_cons_of_mem _ he)
section
variable {P:Program} {w:World} {mt kt et:TypeId} {b:Nat} {es:Array MapEntry} {clock:Nat} {p:Int}
theorem run_look_hit {j:Nat} {v:Value} (hm:P.underlying mt=some (.map kt et)) (hk:P.underlying kt=some (.int .i64)) (hb:w.heap[b]?=some (.map es clock)) (hf:Instr.findNow (.int .i64) (.int .i64 p) es.toList 0=some (some (j,v))) :
  (Instr.lookup mt (.map (some b)) (.int .i64 p) true).run P w=.ok (.tuple #[v,.bool true]) w:=by
 have hc:=fun e=>MapKept.run_checkKey (P:=P) (w:=w) (k:=.int .i64 p) hk (by simp [MapKept.IsKey]) e 9999;simp [Instr.lookup,run_underlying hm,MapKept.run_getObj_map hb,hc,MapKept.run_findKey hk hf,Result.andThen]
theorem run_look_miss {z:Value} (hm:P.underlying mt=some (.map kt et)) (hk:P.underlying kt=some (.int .i64)) (hb:w.heap[b]?=some (.map es clock)) (hf:Instr.findNow (.int .i64) (.int .i64 p) es.toList 0=some none) (hz:(zeroValue et).run P w=.ok z w) :
  (Instr.lookup mt (.map (some b)) (.int .i64 p) true).run P w=.ok (.tuple #[z,.bool false]) w:=by
 have hc:=fun e=>MapKept.run_checkKey (P:=P) (w:=w) (k:=.int .i64 p) hk (by simp [MapKept.IsKey]) e 9999;simp [Instr.lookup,run_underlying hm,MapKept.run_getObj_map hb,hc,MapKept.run_findKey hk hf,hz,Result.andThen]
theorem run_upd_new {v:Value} (hm:P.underlying mt=some (.map kt et)) (hk:P.underlying kt=some (.int .i64)) (hb:w.heap[b]?=some (.map es clock)) (hf:Instr.findNow (.int .i64) (.int .i64 p) es.toList 0=some none) :
  (Instr.mapUpdate mt (.map (some b)) (.int .i64 p) v).run P w=.ok () (setBlock w b (.map (es.push ⟨.int .i64 p,v,clock⟩) (clock+1))):=by
 have hc:=MapKept.run_checkKey (P:=P) (w:=w) (k:=.int .i64 p) hk (by simp [MapKept.IsKey]) false 9999;simp [Instr.mapUpdate,run_underlying hm,MapKept.run_getObj_map hb,hc,MapKept.run_findKey hk hf,MapKept.run_setObj_map _ hb,Result.andThen,setBlock]
theorem run_upd_old {v v0:Value} {j:Nat} {e:MapEntry} (hm:P.underlying mt=some (.map kt et)) (hk:P.underlying kt=some (.int .i64)) (hb:w.heap[b]?=some (.map es clock)) (hf:Instr.findNow (.int .i64) (.int .i64 p) es.toList 0=some (some (j,v0))) (he:es[j]?=some e) (hek:e.key=.int .i64 p) :
  (Instr.mapUpdate mt (.map (some b)) (.int .i64 p) v).run P w=.ok () (setBlock w b (.map (es.modify j fun e=>{ e with key:=.int .i64 p,val:=v }) clock)):=by
 have hc:=MapKept.run_checkKey (P:=P) (w:=w) (k:=.int .i64 p) hk (by simp [MapKept.IsKey]) false 9999;have hs:Instr.sameBits 10000 (.int .i64 p) (.int .i64 p)=true:=by simp [Instr.sameBits]
 simp [Instr.mapUpdate,run_underlying hm,MapKept.run_getObj_map hb,hc,MapKept.run_findKey hk hf,MapKept.run_setObj_map _ hb,Result.andThen,setBlock,Instr.keyThatStays,he,hek,hs]
end
def ent (n:Nat) (T:List St.Tr) (k:Nat) (d:Int×Nat):MapEntry:=⟨.int .i64 d.1,.agg #[.int .i64 d.1,.int .i64 (St.qty T d.1),.slice (some ⟨d.2,0,none⟩) n n],k⟩
def ents (n:Nat) (T:List St.Tr):Nat→List (Int×Nat)→List MapEntry
 | _,[]=>[]
 | k,d :: D=>ent n T k d :: ents n T (k+1) D
theorem ents_len (n:Nat) (T:List St.Tr):∀ (k:Nat) (D:List (Int×Nat)),(ents n T k D).length=D.length
 | _,[]=>rfl
 | k,d :: D=>by rw [ents,List.length_cons,ents_len n T (k+1) D,List.length_cons]
theorem ents_get (n:Nat) (T:List St.Tr):∀ (k:Nat) (D:List (Int×Nat)) (j:Nat),(ents n T k D)[j]?=D[j]?.map fun d=>ent n T (k+j) d
 | _,[],j=>by simp [ents]
 | k,d :: D,0=>by simp [ents]
 | k,d :: D,j+1=>by
  rw [ents,List.getElem?_cons_succ,ents_get n T (k+1) D j,List.getElem?_cons_succ,show k+1+j=k+(j+1) by omega]
theorem ents_snoc (n:Nat) (T:List St.Tr):∀ (k:Nat) (D:List (Int×Nat)) (d:Int×Nat),ents n T k (D ++ [d])=ents n T k D ++ [ent n T (k+D.length) d]
 | k,[],d=>by simp [ents]
 | k,x :: D,d=>by
  rw [List.cons_append,ents,ents,ents_snoc n T (k+1) D d,List.cons_append,List.length_cons,show k+1+D.length=k+(D.length+1) by omega]
def MR (base n:Nat) (T:List St.Tr) (D:List (Int×Nat)) (mb:Nat) (w:World):Prop :=
 D.map (·.1)=St.pr T∧(∃ es:Array MapEntry,w.heap[mb]?=some (.map es D.length)∧es.toList=ents n T 0 D)∧base≤mb ∧
  (∀ d∈D,base≤d.2∧IRow w d.2 (St.parts n T d.1))∧(D.map (·.2)).Nodup
theorem nodup_get {α:Type} {l:List α} (h:l.Nodup) {i j:Nat} {x:α} (hi:l[i]?=some x) (hj:l[j]?=some x):i=j:=by
 obtain ⟨h1,h2⟩:=List.getElem?_eq_some_iff.1 hi;obtain ⟨h3,h4⟩:=List.getElem?_eq_some_iff.1 hj;have hp:=List.pairwise_iff_getElem.1 h;rcases Nat.lt_trichotomy i j with hlt|hlt|hlt
 ·exact absurd (h2.trans h4.symm) (hp i j h1 h3 hlt)
 ·exact hlt
 ·exact absurd (h4.trans h2.symm) (hp j i h3 h1 hlt)
theorem MR.hit {base n:Nat} {T:List St.Tr} {D:List (Int×Nat)} {mb:Nat} {w:World} (h:MR base n T D mb w) {p:Int} (hp:p∈St.pr T) :
  ∃ j g es,D[j]?=some (p,g)∧w.heap[mb]?=some (.map es D.length)∧es.toList=ents n T 0 D∧Instr.findNow (.int .i64) (.int .i64 p) es.toList 0=some (some (j,.agg #[.int .i64 p,.int .i64 (St.qty T p),.slice (some ⟨g,0,none⟩) n n]))∧base≤g∧IRow w g (St.parts n T p):=by
 obtain ⟨h1,⟨es,h2,h3⟩,h4,h5,h6⟩:=h;rw [← h1] at hp;obtain ⟨d,hd,rfl⟩:=List.mem_map.1 hp;obtain ⟨j,hj⟩:=List.getElem?_of_mem hd;obtain ⟨p,g⟩:=d;refine ⟨j,g,es,hj,h2,h3,?_,(h5 _ hd).1,(h5 _ hd).2⟩;rw [h3];have hn:(D.map (·.1)).Nodup:=by rw [h1];exact St.pr_nodup T
 have:=findNow_hit (p:=p) (es:=ents n T 0 D) (j:=j) (i:=0) (e:=ent n T (0+j) (p,g)) (by rw [ents_get,hj];rfl) rfl fun j' hj' e' he'=>by
  rw [ents_get] at he';obtain ⟨d',hd',rfl⟩:=Option.map_eq_some_iff.1 he';refine ⟨d'.1,rfl,fun e=>?_⟩;have a1:(D.map (·.1))[j']?=some p:=by rw [List.getElem?_map,hd',← e];rfl
  have a2:(D.map (·.1))[j]?=some p:=by rw [List.getElem?_map,hj];rfl
  have:=nodup_get hn a1 a2;omega
 rw [Nat.zero_add] at this;exact this
theorem MR.miss {base n:Nat} {T:List St.Tr} {D:List (Int×Nat)} {mb:Nat} {w:World} (h:MR base n T D mb w) {p:Int} (hp:p ∉ St.pr T) :
  ∃ es,w.heap[mb]?=some (.map es D.length)∧es.toList=ents n T 0 D∧Instr.findNow (.int .i64) (.int .i64 p) es.toList 0=some none:=by
 obtain ⟨h1,⟨es,h2,h3⟩,h4,h5,h6⟩:=h;refine ⟨es,h2,h3,?_⟩;rw [h3];refine findNow_miss fun e he=>?_;obtain ⟨j,hj⟩:=List.getElem?_of_mem he;rw [ents_get] at hj;obtain ⟨d',hd',rfl⟩:=Option.map_eq_some_iff.1 hj;refine ⟨d'.1,rfl,fun e=>hp ?_⟩;rw [← h1,← e];exact List.mem_map.2 ⟨d',List.mem_of_getElem? hd',rfl⟩
theorem heap_put {w:World} {r:Nat} (hr:r<w.heap.size) (o:Obj):(setBlock w r o).heap[r]?=some o∧∀ k,k≠r→(setBlock w r o).heap[k]?=w.heap[k]?:=by
 refine ⟨by simp [setBlock,hr],fun k hk=>?_⟩;simp only [setBlock];rw [Array.getElem?_setIfInBounds_ne (fun h=>hk h.symm)]
theorem size_put (w:World) (r:Nat) (o:Obj):(setBlock w r o).heap.size=w.heap.size:=by simp [setBlock]
theorem below_put {B:Nat} {w0 w:World} (h:Below B w0 w) {r:Nat} (hr:B≤r) (hlt:r<w.heap.size) (o:Obj):Below B w0 (setBlock w r o) :=
 h.trans ⟨rfl,rfl,rfl,by rw [size_put];exact Nat.le_refl _,fun k hk=>(heap_put hlt o).2 k (by omega)⟩
theorem MR.keep {base n:Nat} {T:List St.Tr} {D:List (Int×Nat)} {mb:Nat} {w w':World} (h:MR base n T D mb w) (hb:Below w.heap.size w w'):MR base n T D mb w':=by
 obtain ⟨h1,⟨es,h2,h3⟩,h4,h5,h6⟩:=h;exact ⟨h1,⟨es,(hb.block mb (Array.getElem?_eq_some_iff.1 h2).1).trans h2,h3⟩,h4,fun d hd=>⟨(h5 d hd).1,(h5 d hd).2.below hb⟩,h6⟩
theorem MR.lt {base n:Nat} {T:List St.Tr} {D:List (Int×Nat)} {mb:Nat} {w:World} (h:MR base n T D mb w):mb<w.heap.size:=by
 obtain ⟨h1,⟨es,h2,h3⟩,_⟩:=h;exact (Array.getElem?_eq_some_iff.1 h2).1
theorem MR.start {base n:Nat} {w:World} (hb:base≤w.heap.size):MR base n [] [] w.heap.size (w.alloc (.map #[] 0)) :=
 ⟨rfl,⟨#[],(MapKept.heap_alloc w _).1,rfl⟩,hb,fun d hd=>by simp at hd,by simp⟩
theorem IRow.ne_map {w:World} {g mb:Nat} {xs:List Int} {es:Array MapEntry} {k:Nat} (h:IRow w g xs) (hm:w.heap[mb]?=some (.map es k)):g≠mb:=by
 rintro rfl;unfold IRow Blk at h;rw [hm] at h;simp at h
theorem MR.hit_step {base n:Nat} {T:List St.Tr} {D:List (Int×Nat)} {mb:Nat} {w:World} (h:MR base n T D mb w) {p q:Int} {i j g:Nat} {es:Array MapEntry} (hj:D[j]?=some (p,g)) (hes:w.heap[mb]?=some (.map es D.length)) (hel:es.toList=ents n T 0 D) (hi:i<n) :
  MR base n (T ++ [(i,q,p)]) D mb (setBlock (w.setCell ⟨g,i,none⟩ (.int .i64 ((St.parts n T p)[i]?.getD 0+q))) mb (.map (es.modify j fun e=>{ e with key:=.int .i64 p,val:=.agg #[.int .i64 p,.int .i64 (St.qty T p+q),.slice (some ⟨g,0,none⟩) n n] }) D.length)):=by
 obtain ⟨h1,_,h4,h5,h6⟩:=h;have hdm:(p,g)∈D:=List.mem_of_getElem? hj;have hpm:p∈St.pr T:=by rw [← h1];exact List.mem_map.2 ⟨_,hdm,rfl⟩
 have hn1:(D.map (·.1)).Nodup:=by rw [h1];exact St.pr_nodup T
 have hgr:=(h5 _ hdm).2;have hgm:g≠mb:=IRow.ne_map hgr hes;have hmlt:mb<(w.setCell ⟨g,i,none⟩ (.int .i64 ((St.parts n T p)[i]?.getD 0+q))).heap.size:=by simpa [World.setCell] using (Array.getElem?_eq_some_iff.1 hes).1
 have hput:=heap_put hmlt (.map (es.modify j fun e=>{ e with key:=.int .i64 p,val:=.agg #[.int .i64 p,.int .i64 (St.qty T p+q),.slice (some ⟨g,0,none⟩) n n] }) D.length);refine ⟨?_,⟨_,hput.1,?_⟩,h4,fun d hd=>⟨(h5 d hd).1,?_⟩,h6⟩
 ·rw [h1,St.pr_snoc];unfold St.addP;rw [if_pos hpm]
 ·rw [Array.toList_modify,hel];apply List.ext_getElem?;intro k;rw [List.getElem?_modify,ents_get,ents_get];by_cases hjk:j=k
  ·subst hjk;rw [hj];simp [ent,St.qty_snoc]
  ·cases hk:D[k]? with
   | none=>simp [hjk]
   | some d =>
    have hne:d.1≠p:=fun e=>by
     have a1:(D.map (·.1))[k]?=some p:=by rw [List.getElem?_map,hk,← e];rfl
     have a2:(D.map (·.1))[j]?=some p:=by rw [List.getElem?_map,hj];rfl
     exact hjk (nodup_get hn1 a2 a1)
    simp [hjk,ent,St.qty_snoc,hne]
 ·have hdr:=(h5 d hd).2;have hdm':d.2≠mb:=IRow.ne_map hdr hes;rw [St.parts_snoc hi];by_cases hdp:d.1=p
  ·have hdg:d=(p,g):=by
    obtain ⟨k,hk⟩:=List.getElem?_of_mem hd;have a1:(D.map (·.1))[k]?=some p:=by rw [List.getElem?_map,hk,← hdp];rfl
    have a2:(D.map (·.1))[j]?=some p:=by rw [List.getElem?_map,hj];rfl
    have:=nodup_get hn1 a1 a2;subst this;rw [hk] at hj;simpa using hj
   rw [if_pos hdp];subst hdg;exact (hput.2 g hgm).trans (hgr.set i _)
  ·have hdg:d.2≠g:=fun e=>by
    obtain ⟨k,hk⟩:=List.getElem?_of_mem hd;have a1:(D.map (·.2))[k]?=some g:=by rw [List.getElem?_map,hk,← e];rfl
    have a2:(D.map (·.2))[j]?=some g:=by rw [List.getElem?_map,hj];rfl
    have:=nodup_get h6 a1 a2;subst this;rw [hk] at hj;simp at hj;exact hdp (by rw [hj])
   rw [if_neg hdp];exact (hput.2 d.2 hdm').trans (Blk.far hdr (p:=⟨g,i,none⟩) hdg _)
theorem MR.new_step {base n:Nat} {T:List St.Tr} {D:List (Int×Nat)} {mb:Nat} {w:World} (h:MR base n T D mb w) {p q:Int} {i g:Nat} {es:Array MapEntry} (hp:p ∉ St.pr T) (hes:w.heap[mb]?=some (.map es D.length)) (hel:es.toList=ents n T 0 D) (hi:i<n)
  (hg:IRow w g ((St.parts n T p).set i ((St.parts n T p)[i]?.getD 0+q))) (hbg:base≤g) (hng:g ∉ D.map (·.2)) :
  MR base n (T ++ [(i,q,p)]) (D ++ [(p,g)]) mb (setBlock w mb (.map (es.push ⟨.int .i64 p,.agg #[.int .i64 p,.int .i64 (St.qty T p+q),.slice (some ⟨g,0,none⟩) n n],D.length⟩) (D.length+1))):=by
 obtain ⟨h1,_,h4,h5,h6⟩:=h;have hput:=heap_put (Array.getElem?_eq_some_iff.1 hes).1 (.map (es.push ⟨.int .i64 p,.agg #[.int .i64 p,.int .i64 (St.qty T p+q),.slice (some ⟨g,0,none⟩) n n],D.length⟩) (D.length+1));have hold:∀ d∈D,d.1≠p:=fun d hd e=>hp (by rw [← h1,← e];exact List.mem_map.2 ⟨d,hd,rfl⟩);refine ⟨?_,⟨_,by simpa using hput.1,?_⟩,h4,fun d hd=>?_,?_⟩
 ·rw [List.map_append,h1,St.pr_snoc];unfold St.addP;rw [if_neg hp]
  rfl
 ·rw [Array.toList_push,hel,ents_snoc,Nat.zero_add]
  congr 1
  ·apply List.ext_getElem?;intro k;rw [ents_get,ents_get];cases hk:D[k]? with
   | none=>rfl
   | some d =>
    have hne:=hold d (List.mem_of_getElem? hk);simp [ent,St.qty_snoc,hne]
  ·simp [ent,St.qty_snoc]
 ·rcases List.mem_append.1 hd with hd|hd
  ·have hdr:=(h5 d hd).2;refine ⟨(h5 d hd).1,?_⟩;rw [St.parts_snoc hi,if_neg (hold d hd)];exact (hput.2 d.2 (IRow.ne_map hdr hes)).trans hdr
  ·simp at hd;subst hd;refine ⟨hbg,?_⟩;rw [St.parts_snoc hi,if_pos rfl];exact (hput.2 g (IRow.ne_map hg hes)).trans hg
 ·rw [List.map_append,List.nodup_append];exact ⟨h6,by simp,fun a ha b hb=>by simp at hb;subst hb;rintro rfl;exact hng ha⟩
end Go.Proofs.YtjajigkacccdgaaGreat
