/-
Lemmas of the walk; no further conditions.
-/
import Derived.Test.YtjajigkacccdgaaGreatTiAN
import Derived.Maps.RangeRun
import Derived.WideMake
import Derived.Laws.EntriesVeiled
set_option linter.unusedVariables false
set_option linter.unusedSimpArgs false
set_option maxRecDepth 100000
set_option maxHeartbeats 16000000
namespace Go.Proofs.YtjajigkacccdgaaGreat
namespace St
abbrev Tr:=Nat×Int×Int
def tri:Nat→List (List (Int×Int))→List Tr
 | _,[]=>[]
 | k,l :: ls=>l.map (fun s=>(k,s.1,s.2)) ++ tri (k+1) ls
def qty:List Tr→Int→Int
 | [],_=>0
 | t :: T,p=>(if t.2.2=p then t.2.1 else 0)+qty T p
def part:List Tr→Int→Nat→Int
 | [],_,_=>0
 | t :: T,p,i=>(if t.2.2=p∧t.1=i then t.2.1 else 0)+part T p i
def parts (n:Nat) (T:List Tr) (p:Int):List Int:=(List.range n).map (part T p)
def addP (ps:List Int) (p:Int):List Int:=if p∈ps then ps else ps ++ [p]
def pr (T:List Tr):List Int:=T.foldl (fun a t=>addP a t.2.2) []
theorem qty_app:∀ (T S:List Tr) (p:Int),qty (T ++ S) p=qty T p+qty S p
 | [],S,p=>by simp [qty]
 | t :: T,S,p=>by rw [List.cons_append,qty,qty,qty_app T S p];omega
theorem part_app:∀ (T S:List Tr) (p:Int) (i:Nat),part (T ++ S) p i=part T p i+part S p i
 | [],S,p,i=>by simp [part]
 | t :: T,S,p,i=>by rw [List.cons_append,part,part,part_app T S p i];omega
theorem parts_len (n:Nat) (T:List Tr) (p:Int):(parts n T p).length=n:=by simp [parts]
theorem parts_get {n:Nat} {T:List Tr} {p:Int} {i:Nat} (hi:i<n):(parts n T p)[i]?.getD 0=part T p i:=by simp [parts,hi]
theorem ext_getD {xs ys:List Int} (hl:xs.length=ys.length) (h:∀ i,i<xs.length→xs[i]?.getD 0=ys[i]?.getD 0):xs=ys:=by
 apply List.ext_getElem hl;intro i hi hj;have:=h i hi;rw [List.getElem?_eq_getElem hi,List.getElem?_eq_getElem hj] at this;exact this
theorem parts_snoc {n:Nat} {T:List Tr} {i:Nat} {q p:Int} (hi:i<n) (p':Int):parts n (T ++ [(i,q,p)]) p'=if p'=p then (parts n T p).set i ((parts n T p)[i]?.getD 0+q) else parts n T p':=by
 by_cases h:p'=p
 ·subst h;rw [if_pos rfl];refine ext_getD (by simp [parts]) fun j hj=>?_;have hj':j<n:=by simpa [parts] using hj
  rw [parts_get hj',part_app,parts_get hi,List.getElem?_set];by_cases hij:i=j
  ·subst hij;simp [part,parts_len,hi]
  ·rw [if_neg hij,parts_get hj'];simp [part,hij]
 ·rw [if_neg h];refine ext_getD (by simp [parts]) fun j hj=>?_;have hj':j<n:=by simpa [parts] using hj
  rw [parts_get hj',parts_get hj',part_app];have:¬ p=p':=fun e=>h e.symm;simp [part,this]
theorem qty_snoc {T:List Tr} {i:Nat} {q p:Int} (p':Int):qty (T ++ [(i,q,p)]) p'=if p'=p then qty T p+q else qty T p':=by
 rw [qty_app];by_cases h:p'=p
 ·subst h;simp [qty]
 ·have:¬ p=p':=fun e=>h e.symm;simp [qty,h,this]
theorem pr_snoc (T:List Tr) (t:Tr):pr (T ++ [t])=addP (pr T) t.2.2:=by simp [pr,List.foldl_append]
theorem mem_addP {ps:List Int} {p x:Int}:x∈addP ps p↔x∈ps∨x=p:=by
 unfold addP;split
 ·constructor
  ·exact Or.inl
  ·rintro (h|rfl)
   ·exact h
   ·assumption
 ·simp
theorem mem_fold:∀ (T:List Tr) (a:List Int) (x:Int),x∈T.foldl (fun a t=>addP a t.2.2) a↔x∈a∨∃ t∈T,t.2.2=x
 | [],a,x=>by simp
 | t :: T,a,x=>by
  rw [List.foldl_cons,mem_fold T,mem_addP];constructor
  ·rintro ((h|h)|⟨s,h1,h2⟩)
   ·exact Or.inl h
   ·exact Or.inr ⟨t,List.mem_cons_self ..,h.symm⟩
   ·exact Or.inr ⟨s,List.mem_cons_of_mem _ h1,h2⟩
  ·rintro (h|⟨s,h1,h2⟩)
   ·exact Or.inl (Or.inl h)
   ·rcases List.mem_cons.1 h1 with rfl|h1
    ·exact Or.inl (Or.inr h2.symm)
    ·exact Or.inr ⟨s,h1,h2⟩
theorem mem_pr {T:List Tr} {x:Int}:x∈pr T↔∃ t∈T,t.2.2=x:=by
 unfold pr;rw [mem_fold];simp
theorem addP_nodup {ps:List Int} {p:Int} (h:ps.Nodup):(addP ps p).Nodup:=by
 unfold addP;split
 ·exact h
 ·rename_i hp
  rw [List.nodup_append];exact ⟨h,by simp,fun a ha b hb=>by simp at hb;subst hb;rintro rfl;exact hp ha⟩
theorem fold_nodup:∀ (T:List Tr) (a:List Int),a.Nodup→(T.foldl (fun a t=>addP a t.2.2) a).Nodup
 | [],a,h=>h
 | t :: T,a,h=>fold_nodup T _ (addP_nodup h)
theorem pr_nodup (T:List Tr):(pr T).Nodup:=fold_nodup T [] (by simp)
theorem qty_none {T:List Tr} {p:Int} (h:p ∉ pr T):qty T p=0:=by
 have:∀ (S:List Tr),(∀ t∈S,t.2.2≠p)→qty S p=0:=by
  intro S
  induction S with
  | nil=>intro _;rfl
  | cons t S ih =>
   intro hS;rw [qty,if_neg (hS t (List.mem_cons_self ..)),ih fun s hs=>hS s (List.mem_cons_of_mem _ hs)]
   rfl
 exact this T fun t ht e=>h (mem_pr.2 ⟨t,ht,e⟩)
theorem part_none {T:List Tr} {p:Int} {i:Nat} (h:p ∉ pr T):part T p i=0:=by
 have:∀ (S:List Tr),(∀ t∈S,t.2.2≠p)→part S p i=0:=by
  intro S
  induction S with
  | nil=>intro _;rfl
  | cons t S ih =>
   intro hS;rw [part,if_neg (fun e=>hS t (List.mem_cons_self ..) e.1),ih fun s hs=>hS s (List.mem_cons_of_mem _ hs)]
   rfl
 exact this T fun t ht e=>h (mem_pr.2 ⟨t,ht,e⟩)
theorem parts_none {n:Nat} {T:List Tr} {p:Int} (h:p ∉ pr T):parts n T p=List.replicate n 0:=by
 refine ext_getD (by simp [parts]) fun j hj=>?_;have hj':j<n:=by simpa [parts] using hj
 rw [parts_get hj',part_none h];simp [hj']
abbrev Lv:=Int×Int×List Int
def ltU (up:Bool) (a b:Int):Prop:=if up then a<b else b<a
def IsLv (up:Bool) (n:Nat) (T:List Tr) (lv:List Lv):Prop :=
 (lv.map (·.1)).Pairwise (ltU up)∧(∀ p,p∈lv.map (·.1)↔∃ t∈T,t.2.2=p)∧∀ x∈lv,x.2.1=qty T x.1∧x.2.2=parts n T x.1
theorem ltU_irr {up:Bool} {a:Int}:¬ ltU up a a:=by unfold ltU;split<;>omega
theorem ltU_asym {up:Bool} {a b:Int} (h:ltU up a b):¬ ltU up b a:=by unfold ltU at *;split at h<;>rename_i hu<;>simp [hu]<;>omega
theorem sorted_only {up:Bool}:∀ {xs ys:List Int},xs.Pairwise (ltU up)→ys.Pairwise (ltU up)→(∀ p,p∈xs↔p∈ys)→xs=ys
 | [],[],_,_,_=>rfl
 | [],y :: ys,_,_,h=>absurd ((h y).2 (List.mem_cons_self ..)) (by simp)
 | x :: xs,[],_,_,h=>absurd ((h x).1 (List.mem_cons_self ..)) (by simp)
 | x :: xs,y :: ys,hx,hy,h=>by
  obtain ⟨a1,a2⟩:=List.pairwise_cons.1 hx;obtain ⟨b1,b2⟩:=List.pairwise_cons.1 hy;have e:x=y:=by
   rcases List.mem_cons.1 ((h x).1 (List.mem_cons_self ..)) with e|hm
   ·exact e
   ·rcases List.mem_cons.1 ((h y).2 (List.mem_cons_self ..)) with e|hm'
    ·exact e.symm
    ·exact absurd (b1 x hm) (ltU_asym (a1 y hm'))
  subst e
  congr 1
  refine sorted_only a2 b2 fun p=>⟨fun hp=>?_,fun hp=>?_⟩
  ·rcases List.mem_cons.1 ((h p).1 (List.mem_cons_of_mem _ hp)) with e|hm
   ·subst e;exact absurd (a1 p hp) ltU_irr
   ·exact hm
  ·rcases List.mem_cons.1 ((h p).2 (List.mem_cons_of_mem _ hp)) with e|hm
   ·subst e;exact absurd (b1 p hp) ltU_irr
   ·exact hm
theorem IsLv.eq {up:Bool} {n:Nat} {T:List Tr} {lv:List Lv} (h:IsLv up n T lv):lv=(lv.map (·.1)).map fun p=>(p,qty T p,parts n T p):=by
 rw [List.map_map];have:∀ x∈lv,((fun p=>(p,qty T p,parts n T p)) ∘ fun x:Lv=>x.1) x=id x:=fun x hx=>by
  obtain ⟨h1,h2⟩:=h.2.2 x hx;simp only [Function.comp,id];rw [← h1,← h2]
 rw [List.map_congr_left this,List.map_id]
theorem IsLv.only {up:Bool} {n:Nat} {T:List Tr} {lv lv':List Lv} (h:IsLv up n T lv) (h':IsLv up n T lv'):lv=lv':=by
 have e:=sorted_only h.1 h'.1 fun p=>(h.2.1 p).trans (h'.2.1 p).symm;have e1:=h.eq;rw [e] at e1;rw [e1];exact h'.eq.symm
end St
end Go.Proofs.YtjajigkacccdgaaGreat
namespace Go.Proofs.YtjajigkacccdgaaGreat
open Go.RowKit
open Wd
open Go.ChangeMaps (setBlock)
theorem findNow_hit {p:Int}:∀ {es:List MapEntry} {j i:Nat} {e:MapEntry},es[j]?=some e→e.key=.int .i64 p→(∀ j',j'<j→∀ e',es[j']?=some e'→∃ q,e'.key=.int .i64 q∧q≠p)→Instr.findNow (.int .i64) (.int .i64 p) es i=some (some (i+j,e.val))
 | [],_,_,_,h,_,_=>by simp at h
 | e0 :: es,0,i,e,h,hk,_=>by
  simp at h;subst h;simp [Instr.findNow,Instr.sameNow,hk]
 | e0 :: es,j+1,i,e,h,hk,hn=>by
  obtain ⟨q,hq,hne⟩:=hn 0 (by omega) e0 rfl;have:(p == q)=false:=by simp;exact fun h=>hne h.symm
  rw [Instr.findNow,hq];simp only [Instr.sameNow,if_true,this];rw [findNow_hit (j:=j) (by simpa using h) hk fun j' hj' e' he'=>hn (j'+1) (by omega) e' (by simpa using he')];simp;omega
theorem findNow_miss {p:Int}:∀ {es:List MapEntry} {i:Nat},(∀ e∈es,∃ q,e.key=.int .i64 q∧q≠p)→Instr.findNow (.int .i64) (.int .i64 p) es i=some none
 | [],_,_=>rfl
 | e0 :: es,i,hn=>by
  obtain ⟨q,hq,hne⟩:=hn e0 (List.mem_cons_self ..);have:(p == q)=false:=by simp;exact fun h=>hne h.symm
  rw [Instr.findNow,hq];simp only [Instr.sameNow,if_true,this];exact findNow_miss fun e he=>hn e (List.mem_cons_of_mem _ he)
section
variable {P:Program} {w:World} {mt kt et:TypeId} {b:Nat} {es:Array MapEntry} {clock:Nat} {p:Int}
theorem run_look_hit {j:Nat} {v:Value} (hm:P.underlying mt=some (.map kt et)) (hk:P.underlying kt=some (.int .i64)) (hb:w.heap[b]?=some (.map es clock)) (hf:Instr.findNow (.int .i64) (.int .i64 p) es.toList 0=some (some (j,v))) :
  (Instr.lookup mt (.map (some b)) (.int .i64 p) true).run P w=.ok (.tuple #[v,.bool true]) w:=by
 have hc:=fun e=>MapKept.run_checkKey (P:=P) (w:=w) (k:=.int .i64 p) hk (by simp [MapKept.IsKey]) e 9999;simp [Instr.lookup,run_underlying hm,MapKept.run_getObj_map hb,hc,MapKept.run_findKey hk hf,Result.andThen]
theorem run_look_miss {z:Value} (hm:P.underlying mt=some (.map kt et)) (hk:P.underlying kt=some (.int .i64)) (hb:w.heap[b]?=some (.map es clock)) (hf:Instr.findNow (.int .i64) (.int .i64 p) es.toList 0=some none) (hz:(zeroValue et).run P w=.ok z w) :
  (Instr.lookup mt (.map (some b)) (.int .i64 p) true).run P w=.ok (.tuple #[z,.bool false]) w:=by
 have hc:=fun e=>MapKept.run_checkKey (P:=P) (w:=w) (k:=.int .i64 p) hk (by simp [MapKept.IsKey]) e 9999;simp [Instr.lookup,run_underlying hm,MapKept.run_getObj_map hb,hc,MapKept.run_findKey hk hf,hz,Result.andThen]
theorem run_upd_new {v:Value} (hm:P.underlying mt=some (.map kt et)) (hk:P.underlying kt=some (.int .i64)) (hb:w.heap[b]?=some (.map es clock)) (hf:Instr.findNow (.int .i64) (.int .i64 p) es.toList 0=some none) :
  (Instr.mapUpdate mt (.map (some b)) (.int .i64 p) v).run P w=.ok () (setBlock w b (.map (es.push ⟨.int .i64 p,v,clock⟩) (clock+1))):=by
 have hc:=MapKept.run_checkKey (P:=P) (w:=w) (k:=.int .i64 p) hk (by simp [MapKept.IsKey]) false 9999;simp [Instr.mapUpdate,run_underlying hm,MapKept.run_getObj_map hb,hc,MapKept.run_findKey hk hf,MapKept.run_setObj_map _ hb,Result.andThen,setBlock]
theorem run_upd_old {v v0:Value} {j:Nat} {e:MapEntry} (hm:P.underlying mt=some (.map kt et)) (hk:P.underlying kt=some (.int .i64)) (hb:w.heap[b]?=some (.map es clock)) (hf:Instr.findNow (.int .i64) (.int .i64 p) es.toList 0=some (some (j,v0))) (he:es[j]?=some e) (hek:e.key=.int .i64 p) :
  (Instr.mapUpdate mt (.map (some b)) (.int .i64 p) v).run P w=.ok () (setBlock w b (.map (es.modify j fun e=>{ e with key:=.int .i64 p,val:=v }) clock)):=by
 have hc:=MapKept.run_checkKey (P:=P) (w:=w) (k:=.int .i64 p) hk (by simp [MapKept.IsKey]) false 9999;have hs:Instr.sameBits 10000 (.int .i64 p) (.int .i64 p)=true:=by simp [Instr.sameBits]
 simp [Instr.mapUpdate,run_underlying hm,MapKept.run_getObj_map hb,hc,MapKept.run_findKey hk hf,MapKept.run_setObj_map _ hb,Result.andThen,setBlock,Instr.keyThatStays,he,hek,hs]
end
def ent (n:Nat) (T:List St.Tr) (k:Nat) (d:Int×Nat):MapEntry:=⟨.int .i64 d.1,.agg #[.int .i64 d.1,.int .i64 (St.qty T d.1),.slice (some ⟨d.2,0,none⟩) n n],k⟩
def ents (n:Nat) (T:List St.Tr):Nat→List (Int×Nat)→List MapEntry
 | _,[]=>[]
 | k,d :: D=>ent n T k d :: ents n T (k+1) D
theorem ents_len (n:Nat) (T:List St.Tr):∀ (k:Nat) (D:List (Int×Nat)),(ents n T k D).length=D.length
 | _,[]=>rfl
 | k,d :: D=>by rw [ents,List.length_cons,ents_len n T (k+1) D,List.length_cons]
theorem ents_get (n:Nat) (T:List St.Tr):∀ (k:Nat) (D:List (Int×Nat)) (j:Nat),(ents n T k D)[j]?=D[j]?.map fun d=>ent n T (k+j) d
 | _,[],j=>by simp [ents]
 | k,d :: D,0=>by simp [ents]
 | k,d :: D,j+1=>by
  rw [ents,List.getElem?_cons_succ,ents_get n T (k+1) D j,List.getElem?_cons_succ,show k+1+j=k+(j+1) by omega]
theorem ents_snoc (n:Nat) (T:List St.Tr):∀ (k:Nat) (D:List (Int×Nat)) (d:Int×Nat),ents n T k (D ++ [d])=ents n T k D ++ [ent n T (k+D.length) d]
 | k,[],d=>by simp [ents]
 | k,x :: D,d=>by
  rw [List.cons_append,ents,ents,ents_snoc n T (k+1) D d,List.cons_append,List.length_cons,show k+1+D.length=k+(D.length+1) by omega]
def MR (base n:Nat) (T:List St.Tr) (D:List (Int×Nat)) (mb:Nat) (w:World):Prop :=
 D.map (·.1)=St.pr T∧(∃ es:Array MapEntry,w.heap[mb]?=some (.map es D.length)∧es.toList=ents n T 0 D)∧base≤mb ∧
  (∀ d∈D,base≤d.2∧IRow w d.2 (St.parts n T d.1))∧(D.map (·.2)).Nodup
theorem nodup_get {α:Type} {l:List α} (h:l.Nodup) {i j:Nat} {x:α} (hi:l[i]?=some x) (hj:l[j]?=some x):i=j:=by
 obtain ⟨h1,h2⟩:=List.getElem?_eq_some_iff.1 hi;obtain ⟨h3,h4⟩:=List.getElem?_eq_some_iff.1 hj;have hp:=List.pairwise_iff_getElem.1 h;rcases Nat.lt_trichotomy i j with hlt|hlt|hlt
 ·exact absurd (h2.trans h4.symm) (hp i j h1 h3 hlt)
 ·exact hlt
 ·exact absurd (h4.trans h2.symm) (hp j i h3 h1 hlt)
theorem MR.hit {base n:Nat} {T:List St.Tr} {D:List (Int×Nat)} {mb:Nat} {w:World} (h:MR base n T D mb w) {p:Int} (hp:p∈St.pr T) :
  ∃ j g es,D[j]?=some (p,g)∧w.heap[mb]?=some (.map es D.length)∧es.toList=ents n T 0 D∧Instr.findNow (.int .i64) (.int .i64 p) es.toList 0=some (some (j,.agg #[.int .i64 p,.int .i64 (St.qty T p),.slice (some ⟨g,0,none⟩) n n]))∧base≤g∧IRow w g (St.parts n T p):=by
 obtain ⟨h1,⟨es,h2,h3⟩,h4,h5,h6⟩:=h;rw [← h1] at hp;obtain ⟨d,hd,rfl⟩:=List.mem_map.1 hp;obtain ⟨j,hj⟩:=List.getElem?_of_mem hd;obtain ⟨p,g⟩:=d;refine ⟨j,g,es,hj,h2,h3,?_,(h5 _ hd).1,(h5 _ hd).2⟩;rw [h3];have hn:(D.map (·.1)).Nodup:=by rw [h1];exact St.pr_nodup T
 have:=findNow_hit (p:=p) (es:=ents n T 0 D) (j:=j) (i:=0) (e:=ent n T (0+j) (p,g)) (by rw [ents_get,hj];rfl) rfl fun j' hj' e' he'=>by
  rw [ents_get] at he';obtain ⟨d',hd',rfl⟩:=Option.map_eq_some_iff.1 he';refine ⟨d'.1,rfl,fun e=>?_⟩;have a1:(D.map (·.1))[j']?=some p:=by rw [List.getElem?_map,hd',← e];rfl
  have a2:(D.map (·.1))[j]?=some p:=by rw [List.getElem?_map,hj];rfl
  have:=nodup_get hn a1 a2;omega
 rw [Nat.zero_add] at this;exact this
theorem MR.miss {base n:Nat} {T:List St.Tr} {D:List (Int×Nat)} {mb:Nat} {w:World} (h:MR base n T D mb w) {p:Int} (hp:p ∉ St.pr T) :
  ∃ es,w.heap[mb]?=some (.map es D.length)∧es.toList=ents n T 0 D∧Instr.findNow (.int .i64) (.int .i64 p) es.toList 0=some none:=by
 obtain ⟨h1,⟨es,h2,h3⟩,h4,h5,h6⟩:=h;refine ⟨es,h2,h3,?_⟩;rw [h3];refine findNow_miss fun e he=>?_;obtain ⟨j,hj⟩:=List.getElem?_of_mem he;rw [ents_get] at hj;obtain ⟨d',hd',rfl⟩:=Option.map_eq_some_iff.1 hj;refine ⟨d'.1,rfl,fun e=>hp ?_⟩;rw [← h1,← e];exact List.mem_map.2 ⟨d',List.mem_of_getElem? hd',rfl⟩
theorem heap_put {w:World} {r:Nat} (hr:r<w.heap.size) (o:Obj):(setBlock w r o).heap[r]?=some o∧∀ k,k≠r→(setBlock w r o).heap[k]?=w.heap[k]?:=by
 refine ⟨by simp [setBlock,hr],fun k hk=>?_⟩;simp only [setBlock];rw [Array.getElem?_setIfInBounds_ne (fun h=>hk h.symm)]
theorem size_put (w:World) (r:Nat) (o:Obj):(setBlock w r o).heap.size=w.heap.size:=by simp [setBlock]
theorem below_put {B:Nat} {w0 w:World} (h:Below B w0 w) {r:Nat} (hr:B≤r) (hlt:r<w.heap.size) (o:Obj):Below B w0 (setBlock w r o) :=
 h.trans ⟨rfl,rfl,rfl,by rw [size_put];exact Nat.le_refl _,fun k hk=>(heap_put hlt o).2 k (by omega)⟩
theorem MR.keep {base n:Nat} {T:List St.Tr} {D:List (Int×Nat)} {mb:Nat} {w w':World} (h:MR base n T D mb w) (hb:Below w.heap.size w w'):MR base n T D mb w':=by
 obtain ⟨h1,⟨es,h2,h3⟩,h4,h5,h6⟩:=h;exact ⟨h1,⟨es,(hb.block mb (Array.getElem?_eq_some_iff.1 h2).1).trans h2,h3⟩,h4,fun d hd=>⟨(h5 d hd).1,(h5 d hd).2.below hb⟩,h6⟩
theorem MR.lt {base n:Nat} {T:List St.Tr} {D:List (Int×Nat)} {mb:Nat} {w:World} (h:MR base n T D mb w):mb<w.heap.size:=by
 obtain ⟨h1,⟨es,h2,h3⟩,_⟩:=h;exact (Array.getElem?_eq_some_iff.1 h2).1
theorem MR.start {base n:Nat} {w:World} (hb:base≤w.heap.size):MR base n [] [] w.heap.size (w.alloc (.map #[] 0)) :=
 ⟨rfl,⟨#[],(MapKept.heap_alloc w _).1,rfl⟩,hb,fun d hd=>by simp at hd,by simp⟩
theorem IRow.ne_map {w:World} {g mb:Nat} {xs:List Int} {es:Array MapEntry} {k:Nat} (h:IRow w g xs) (hm:w.heap[mb]?=some (.map es k)):g≠mb:=by
 rintro rfl;unfold IRow Blk at h;rw [hm] at h;simp at h
theorem MR.hit_step {base n:Nat} {T:List St.Tr} {D:List (Int×Nat)} {mb:Nat} {w:World} (h:MR base n T D mb w) {p q:Int} {i j g:Nat} {es:Array MapEntry} (hj:D[j]?=some (p,g)) (hes:w.heap[mb]?=some (.map es D.length)) (hel:es.toList=ents n T 0 D) (hi:i<n) :
  MR base n (T ++ [(i,q,p)]) D mb (setBlock (w.setCell ⟨g,i,none⟩ (.int .i64 ((St.parts n T p)[i]?.getD 0+q))) mb (.map (es.modify j fun e=>{ e with key:=.int .i64 p,val:=.agg #[.int .i64 p,.int .i64 (St.qty T p+q),.slice (some ⟨g,0,none⟩) n n] }) D.length)):=by
 obtain ⟨h1,_,h4,h5,h6⟩:=h;have hdm:(p,g)∈D:=List.mem_of_getElem? hj;have hpm:p∈St.pr T:=by rw [← h1];exact List.mem_map.2 ⟨_,hdm,rfl⟩
 have hn1:(D.map (·.1)).Nodup:=by rw [h1];exact St.pr_nodup T
 have hgr:=(h5 _ hdm).2;have hgm:g≠mb:=IRow.ne_map hgr hes;have hmlt:mb<(w.setCell ⟨g,i,none⟩ (.int .i64 ((St.parts n T p)[i]?.getD 0+q))).heap.size:=by simpa [World.setCell] using (Array.getElem?_eq_some_iff.1 hes).1
 have hput:=heap_put hmlt (.map (es.modify j fun e=>{ e with key:=.int .i64 p,val:=.agg #[.int .i64 p,.int .i64 (St.qty T p+q),.slice (some ⟨g,0,none⟩) n n] }) D.length);refine ⟨?_,⟨_,hput.1,?_⟩,h4,fun d hd=>⟨(h5 d hd).1,?_⟩,h6⟩
 ·rw [h1,St.pr_snoc];unfold St.addP;rw [if_pos hpm]
 ·rw [Array.toList_modify,hel];apply List.ext_getElem?;intro k;rw [List.getElem?_modify,ents_get,ents_get];by_cases hjk:j=k
  ·subst hjk;rw [hj];simp [ent,St.qty_snoc]
  ·cases hk:D[k]? with
   | none=>simp [hjk]
   | some d =>
    have hne:d.1≠p:=fun e=>by
     have a1:(D.map (·.1))[k]?=some p:=by rw [List.getElem?_map,hk,← e];rfl
     have a2:(D.map (·.1))[j]?=some p:=by rw [List.getElem?_map,hj];rfl
     exact hjk (nodup_get hn1 a2 a1)
    simp [hjk,ent,St.qty_snoc,hne]
 ·have hdr:=(h5 d hd).2;have hdm':d.2≠mb:=IRow.ne_map hdr hes;rw [St.parts_snoc hi];by_cases hdp:d.1=p
  ·have hdg:d=(p,g):=by
    obtain ⟨k,hk⟩:=List.getElem?_of_mem hd;have a1:(D.map (·.1))[k]?=some p:=by rw [List.getElem?_map,hk,← hdp];rfl
    have a2:(D.map (·.1))[j]?=some p:=by rw [List.getElem?_map,hj];rfl
    have:=nodup_get hn1 a1 a2;subst this;rw [hk] at hj;simpa using hj
   rw [if_pos hdp];subst hdg;exact (hput.2 g hgm).trans (hgr.set i _)
  ·have hdg:d.2≠g:=fun e=>by
    obtain ⟨k,hk⟩:=List.getElem?_of_mem hd;have a1:(D.map (·.2))[k]?=some g:=by rw [List.getElem?_map,hk,← e];rfl
    have a2:(D.map (·.2))[j]?=some g:=by rw [List.getElem?_map,hj];rfl
    have:=nodup_get h6 a1 a2;subst this;rw [hk] at hj;simp at hj;exact hdp (by rw [hj])
   rw [if_neg hdp];exact (hput.2 d.2 hdm').trans (Blk.far hdr (p:=⟨g,i,none⟩) hdg _)
theorem MR.new_step {base n:Nat} {T:List St.Tr} {D:List (Int×Nat)} {mb:Nat} {w:World} (h:MR base n T D mb w) {p q:Int} {i g:Nat} {es:Array MapEntry} (hp:p ∉ St.pr T) (hes:w.heap[mb]?=some (.map es D.length)) (hel:es.toList=ents n T 0 D) (hi:i<n)
  (hg:IRow w g ((St.parts n T p).set i ((St.parts n T p)[i]?.getD 0+q))) (hbg:base≤g) (hng:g ∉ D.map (·.2)) :
  MR base n (T ++ [(i,q,p)]) (D ++ [(p,g)]) mb (setBlock w mb (.map (es.push ⟨.int .i64 p,.agg #[.int .i64 p,.int .i64 (St.qty T p+q),.slice (some ⟨g,0,none⟩) n n],D.length⟩) (D.length+1))):=by
 obtain ⟨h1,_,h4,h5,h6⟩:=h;have hput:=heap_put (Array.getElem?_eq_some_iff.1 hes).1 (.map (es.push ⟨.int .i64 p,.agg #[.int .i64 p,.int .i64 (St.qty T p+q),.slice (some ⟨g,0,none⟩) n n],D.length⟩) (D.length+1));have hold:∀ d∈D,d.1≠p:=fun d hd e=>hp (by rw [← h1,← e];exact List.mem_map.2 ⟨d,hd,rfl⟩);refine ⟨?_,⟨_,by simpa using hput.1,?_⟩,h4,fun d hd=>?_,?_⟩
 ·rw [List.map_append,h1,St.pr_snoc];unfold St.addP;rw [if_neg hp]
  rfl
 ·rw [Array.toList_push,hel,ents_snoc,Nat.zero_add]
  congr 1
  ·apply List.ext_getElem?;intro k;rw [ents_get,ents_get];cases hk:D[k]? with
   | none=>rfl
   | some d =>
    have hne:=hold d (List.mem_of_getElem? hk);simp [ent,St.qty_snoc,hne]
  ·simp [ent,St.qty_snoc]
 ·rcases List.mem_append.1 hd with hd|hd
  ·have hdr:=(h5 d hd).2;refine ⟨(h5 d hd).1,?_⟩;rw [St.parts_snoc hi,if_neg (hold d hd)];exact (hput.2 d.2 (IRow.ne_map hdr hes)).trans hdr
  ·simp at hd;subst hd;refine ⟨hbg,?_⟩;rw [St.parts_snoc hi,if_pos rfl];exact (hput.2 g (IRow.ne_map hg hes)).trans hg
 ·rw [List.map_append,List.nodup_append];exact ⟨h6,by simp,fun a ha b hb=>by simp at hb;subst hb;rintro rfl;exact hng ha⟩
def StAt (w:World) (A:Option Addr) (n:Nat) (l:List (Int×Int)):Prop :=
 l.length=n∧(∀ s∈l,Fits s.1∧Fits s.2)∧(n≠0→∃ b o,A=some ⟨b,o,none⟩∧b<w.heap.size∧∀ j,j<n→w.cell? ⟨b,o+j*2,none⟩=some (.int .i64 (l[j]?.getD (0,0)).1)∧w.cell? ⟨b,o+j*2+1,none⟩=some (.int .i64 (l[j]?.getD (0,0)).2))
theorem StAt.below {w w':World} {A:Option Addr} {n:Nat} {l:List (Int×Int)} (h:StAt w A n l) (hb:Below w.heap.size w w'):StAt w' A n l:=by
 refine ⟨h.1,h.2.1,fun hn=>?_⟩;obtain ⟨b,o,rfl,hlt,hc⟩:=h.2.2 hn;exact ⟨b,o,rfl,Nat.lt_of_lt_of_le hlt hb.size,fun j hj=>⟨(hb.cell hlt).trans (hc j hj).1,(hb.cell hlt).trans (hc j hj).2⟩⟩
def flw (up:Bool) (prev p:Int):Bool:=if up then decide (prev<p) else decide (p<prev)
def chkFrom (up:Bool):Option Int→List (Int×Int)→Int
 | _,[]=>0
 | prev,(q,p) :: r=>if q<1∨1000000<q∨p < -1000000∨1000000<p then 1 else
  match prev with
  | none=>chkFrom up (some p) r
  | some v=>if flw up v p then chkFrom up (some p) r else 3
def chk (up:Bool) (l:List (Int×Int)):Int:=if l.length=0 then 4 else if 3<l.length then 5 else chkFrom up none l
def Bad (q p:Int):Prop:=q<1∨1000000<q∨p < -1000000∨1000000<p
theorem chkFrom_nil (up:Bool) (prev:Option Int):chkFrom up prev []=0:=by cases prev<;>rfl
theorem chkFrom_bad {up:Bool} {prev:Option Int} {q p:Int} {r:List (Int×Int)} (h:Bad q p):chkFrom up prev ((q,p) :: r)=1:=by
 cases prev<;>(rw [chkFrom];exact if_pos h)
theorem chkFrom_first {up:Bool} {q p:Int} {r:List (Int×Int)} (h:¬ Bad q p):chkFrom up none ((q,p) :: r)=chkFrom up (some p) r:=by
 rw [chkFrom];exact if_neg h
theorem chkFrom_next {up:Bool} {v q p:Int} {r:List (Int×Int)} (h:¬ Bad q p):chkFrom up (some v) ((q,p) :: r)=if flw up v p then chkFrom up (some p) r else 3:=by
 rw [chkFrom];exact if_neg h
theorem rising_f (a b:Int) (w:World):Calls Tryz.prog 157 #[.int .i64 a,.int .i64 b] w fun e w'=>e=.returned (.bool (flw true a b))∧w=w':=by
 have e:flw true a b=decide (a<b):=rfl;rw [e];go_enter Tryz.func157,Tryz.ntmps157;go_wp2;go_ret;exact ⟨rfl,rfl⟩
theorem falling_f (a b:Int) (w:World):Calls Tryz.prog 177 #[.int .i64 a,.int .i64 b] w fun e w'=>e=.returned (.bool (flw false a b))∧w=w':=by
 have e:flw false a b=decide (b<a):=rfl;rw [e];go_enter Tryz.func177,Tryz.ntmps177;go_wp2;go_ret;exact ⟨rfl,rfl⟩
theorem drop_cons {l:List (Int×Int)} {k:Nat} (hk:k<l.length):l.drop k=(l[k]?.getD (0,0)) :: l.drop (k+1):=by
 rw [List.drop_eq_getElem_cons hk,List.getElem?_eq_getElem hk];rfl
def pv (l:List (Int×Int)) (k:Nat):Option Int:=if k=0 then none else some (l[k-1]?.getD (0,0)).2
def ChkR (up:Bool) (w:World) (l:List (Int×Int)) (k:Nat) (wr:World) (f:Value):Prop :=
 chkFrom up none l=chkFrom up (pv l k) (l.drop k)∧Blk wr w.heap.size 146 #[f]∧Below w.heap.size w wr
theorem dcheck_up (A:Option Addr) (n c:Nat) (l:List (Int×Int)) (w:World) (h:StAt w A n l) (hm:n≤1000000000000) :
  Calls Tryz.prog 120 #[.agg #[.func (.func 157) #[] #[]],.slice A n c] w fun e w'=>e=.returned (.int .i64 (chk true l))∧Below w.heap.size w w':=by
 obtain ⟨hl,hf,hc⟩:=h;by_cases h0:n=0
 ·subst h0;have e:chk true l=4:=by unfold chk;rw [if_pos hl]
  rw [e];go_enter Tryz.func120,Tryz.ntmps120;go_wp2;go_ret;exact ⟨rfl,(Below.refl _ _).alloc (Nat.le_refl _) _⟩
 ·by_cases h3:3<n
  ·have e:chk true l=5:=by unfold chk;rw [if_neg (by omega),if_pos (by omega)]
   rw [e];have hn0:((n:Int) == 0)=false:=by simp;omega
   go_enter Tryz.func120,Tryz.ntmps120;go_wp2;go_ret;exact ⟨rfl,(Below.refl _ _).alloc (Nat.le_refl _) _⟩
  ·have e:chk true l=chkFrom true none l:=by unfold chk;rw [if_neg (by omega),if_neg (by omega)]
   rw [e];have hn0:((n:Int) == 0)=false:=by simp;omega
   have HL:=Hj hl;have HFT:=Hj hf;obtain ⟨b,o,rfl,hb,hcell⟩:=hc h0;have HC:=Hj hcell;clear e hl hf hc hcell;go_enter Tryz.func120,Tryz.ntmps120
   go_wp2_with fail
   have hst:ChkR true w l 0 (w.alloc (.cells #[.func (.func 157) #[] #[]] 146)) (.func (.func 157) #[] #[]):=⟨rfl,Blk.new _ _ _,(Below.refl _ _).alloc (Nat.le_refl _) _⟩;generalize w.alloc (.cells #[.func (.func 157) #[] #[]] 146)=W0 at *
   go_loopw [15] (fun t wr=>∃ k:Nat,k≤n∧t=.int .i64 k∧ChkR true w l k wr (.func (.func 157) #[] #[])) (fun t _=>n-(intOf t).toNat)
   case atStart=>exact ⟨0,Nat.zero_le _,rfl,hst⟩
   case round =>
    obtain ⟨k,hk,rfl,hR,hG,hB⟩:=hrel;have HR:=Hj hR;clear hst hR;by_cases hlt:k<n
    ·obtain ⟨ck,ck'⟩:=HC.out k hlt;have hck:=(hB.cell (p:=⟨b,o+k*2,none⟩) hb).trans ck;have hck':=(hB.cell (p:=⟨b,o+k*2+1,none⟩) hb).trans ck';have hdr:=drop_cons (l:=l) (k:=k) (by rw [HL.out];exact hlt);have hbr:b<wr.heap.size:=Nat.lt_of_lt_of_le hb hB.size;generalize hsp:l[k]?.getD (0,0)=sp at *;obtain ⟨q,p⟩:=sp;have HDR:=Hj hdr;have HSP:=Hj hsp;clear ck ck' hdr hsp;simp only at hck hck';obtain ⟨f0,-⟩:=hG.one;have hb9:=hB.alloc hB.size (.cells #[.int .i64 q,.int .i64 p] 107);have hG9:=hG.alloc (.cells #[.int .i64 q,.int .i64 p] 107);have f9:=(hG9.one).1;by_cases hbad:Bad q p
     ·have e:chkFrom true none l=1:=by rw [HR.out,HDR.out];exact chkFrom_bad hbad
      have E:=Hj e;have hb4:q<1∨(¬ q<1∧1000000<q)∨(¬ q<1∧¬ 1000000<q∧p < -1000000)∨(¬ q<1∧¬ 1000000<q∧¬ p < -1000000∧1000000<p):=by unfold Bad at hbad;omega
      clear e hbad;rcases hb4 with g1|⟨g1,g2⟩|⟨g1,g2,g3⟩|⟨g1,g2,g3,g4⟩
      all_goals
       go_wp2;go_ret;rw [E.out];exact ⟨rfl,hb9⟩
     ·have g1:¬ q<1:=by unfold Bad at hbad;omega
      have g2:¬ 1000000<q:=by unfold Bad at hbad;omega
      have g3:¬ p < -1000000:=by unfold Bad at hbad;omega
      have g4:¬ 1000000<p:=by unfold Bad at hbad;omega
      have HB:=Hj hbad;clear hbad;by_cases hk0:k=0
      ·subst hk0;have hd:decide ((0:Int)<((0:Nat):Int))=false:=by simp
       have hnew:chkFrom true none l=chkFrom true (some p) (l.drop (0+1)):=by
        rw [HR.out,HDR.out];exact chkFrom_first HB.out
       have HN:Hid (chkFrom true none l=chkFrom true (pv l (0+1)) (l.drop (0+1))):=by unfold Hid;rw [hnew];unfold pv;rw [if_neg (by omega)];rw [show 0+1-1=0 from rfl,HSP.out]
       clear hnew;simp only [Nat.zero_mul,Nat.add_zero] at hck hck'
       go_wp2_with fail
       go_quiet (fail)
       go_wp2;go_roundw
       case rel=>exact ⟨0+1,by omega,by go_num,HN.out,hG9,below_drewN hb9 _⟩
       case measure=>simp [intOf];omega
      ·obtain ⟨k,rfl⟩:∃ j,k=j+1:=⟨k-1,by omega⟩;obtain ⟨ck,ck'⟩:=HC.out k (by omega);have hcp:=(hb9.cell (p:=⟨b,o+k*2+1,none⟩) hb).trans ck';have hpv:pv l (k+1)=some (l[k]?.getD (0,0)).2:=by unfold pv;rw [if_neg (by omega)];rfl
       generalize hpe:(l[k]?.getD (0,0)).2=v at *;have hR2:chkFrom true none l=if flw true v p then chkFrom true (some p) (l.drop (k+1+1)) else 3:=by
        rw [HR.out,HDR.out,hpv];exact chkFrom_next HB.out
       have HR2:=Hj hR2;have HPV:Hid (pv l (k+1+1)=some p):=by unfold Hid pv;rw [if_neg (by omega)];rw [show k+1+1-1=k+1 from rfl,HSP.out]
       have hkp:(0:Int)<(k:Int)+1:=by omega
       have hkw:IntKind.i64.wrap ((k:Int)+1-1)=(k:Int):=by rw [show (k:Int)+1-1=k by omega];exact IntWalk.i64_in _ (by omega)
       have hkn:(k:Int)<(n:Int):=by omega
       have hk00:(0:Int)≤(k:Int):=by omega
       clear ck ck' hR2 hpv hpe hk0;cases hfl:flw true v p
       ·have e:chkFrom true none l=3:=by rw [HR2.out,hfl];rfl
        have E:=Hj e;clear e HR2;have T:=fun W=>rising_f v p W;rw [hfl] at T;have T:=Hj T;clear hfl
        go_wp2_with fail
        go_quiet ((go_at_call 157;exact quiet_left (T.out _)))
        go_wp2;go_ret;rw [E.out];exact ⟨rfl,below_drewN hb9 _⟩
       ·have e:chkFrom true none l=chkFrom true (pv l (k+1+1)) (l.drop (k+1+1)):=by rw [HR2.out,hfl,HPV.out];rfl
        have E:=Hj e;clear e HR2;have T:=fun W=>rising_f v p W;rw [hfl] at T;have T:=Hj T;clear hfl
        go_wp2_with fail
        go_quiet ((go_at_call 157;exact quiet_left (T.out _)))
        go_wp2;go_roundw
        case rel=>exact ⟨k+1+1,by omega,by go_num,E.out,hG9,below_drewN hb9 _⟩
        case measure=>simp [intOf];omega
    ·obtain rfl:k=n:=by omega
     have e:chkFrom true none l=0:=by rw [HR.out,List.drop_of_length_le (by rw [HL.out];exact Nat.le_refl _)];exact chkFrom_nil _ _
     have E:=Hj e;clear e;go_wp2;go_ret;rw [E.out];exact ⟨rfl,hB⟩
theorem dcheck_dn (A:Option Addr) (n c:Nat) (l:List (Int×Int)) (w:World) (h:StAt w A n l) (hm:n≤1000000000000) :
  Calls Tryz.prog 120 #[.agg #[.func (.func 177) #[] #[]],.slice A n c] w fun e w'=>e=.returned (.int .i64 (chk false l))∧Below w.heap.size w w':=by
 obtain ⟨hl,hf,hc⟩:=h;by_cases h0:n=0
 ·subst h0;have e:chk false l=4:=by unfold chk;rw [if_pos hl]
  rw [e];go_enter Tryz.func120,Tryz.ntmps120;go_wp2;go_ret;exact ⟨rfl,(Below.refl _ _).alloc (Nat.le_refl _) _⟩
 ·by_cases h3:3<n
  ·have e:chk false l=5:=by unfold chk;rw [if_neg (by omega),if_pos (by omega)]
   rw [e];have hn0:((n:Int) == 0)=false:=by simp;omega
   go_enter Tryz.func120,Tryz.ntmps120;go_wp2;go_ret;exact ⟨rfl,(Below.refl _ _).alloc (Nat.le_refl _) _⟩
  ·have e:chk false l=chkFrom false none l:=by unfold chk;rw [if_neg (by omega),if_neg (by omega)]
   rw [e];have hn0:((n:Int) == 0)=false:=by simp;omega
   have HL:=Hj hl;have HFT:=Hj hf;obtain ⟨b,o,rfl,hb,hcell⟩:=hc h0;have HC:=Hj hcell;clear e hl hf hc hcell;go_enter Tryz.func120,Tryz.ntmps120
   go_wp2_with fail
   have hst:ChkR false w l 0 (w.alloc (.cells #[.func (.func 177) #[] #[]] 146)) (.func (.func 177) #[] #[]):=⟨rfl,Blk.new _ _ _,(Below.refl _ _).alloc (Nat.le_refl _) _⟩;generalize w.alloc (.cells #[.func (.func 177) #[] #[]] 146)=W0 at *
   go_loopw [15] (fun t wr=>∃ k:Nat,k≤n∧t=.int .i64 k∧ChkR false w l k wr (.func (.func 177) #[] #[])) (fun t _=>n-(intOf t).toNat)
   case atStart=>exact ⟨0,Nat.zero_le _,rfl,hst⟩
   case round =>
    obtain ⟨k,hk,rfl,hR,hG,hB⟩:=hrel;have HR:=Hj hR;clear hst hR;by_cases hlt:k<n
    ·obtain ⟨ck,ck'⟩:=HC.out k hlt;have hck:=(hB.cell (p:=⟨b,o+k*2,none⟩) hb).trans ck;have hck':=(hB.cell (p:=⟨b,o+k*2+1,none⟩) hb).trans ck';have hdr:=drop_cons (l:=l) (k:=k) (by rw [HL.out];exact hlt);have hbr:b<wr.heap.size:=Nat.lt_of_lt_of_le hb hB.size;generalize hsp:l[k]?.getD (0,0)=sp at *;obtain ⟨q,p⟩:=sp;have HDR:=Hj hdr;have HSP:=Hj hsp;clear ck ck' hdr hsp;simp only at hck hck';obtain ⟨f0,-⟩:=hG.one;have hb9:=hB.alloc hB.size (.cells #[.int .i64 q,.int .i64 p] 107);have hG9:=hG.alloc (.cells #[.int .i64 q,.int .i64 p] 107);have f9:=(hG9.one).1;by_cases hbad:Bad q p
     ·have e:chkFrom false none l=1:=by rw [HR.out,HDR.out];exact chkFrom_bad hbad
      have E:=Hj e;have hb4:q<1∨(¬ q<1∧1000000<q)∨(¬ q<1∧¬ 1000000<q∧p < -1000000)∨(¬ q<1∧¬ 1000000<q∧¬ p < -1000000∧1000000<p):=by unfold Bad at hbad;omega
      clear e hbad;rcases hb4 with g1|⟨g1,g2⟩|⟨g1,g2,g3⟩|⟨g1,g2,g3,g4⟩
      all_goals
       go_wp2;go_ret;rw [E.out];exact ⟨rfl,hb9⟩
     ·have g1:¬ q<1:=by unfold Bad at hbad;omega
      have g2:¬ 1000000<q:=by unfold Bad at hbad;omega
      have g3:¬ p < -1000000:=by unfold Bad at hbad;omega
      have g4:¬ 1000000<p:=by unfold Bad at hbad;omega
      have HB:=Hj hbad;clear hbad;by_cases hk0:k=0
      ·subst hk0;have hd:decide ((0:Int)<((0:Nat):Int))=false:=by simp
       have hnew:chkFrom false none l=chkFrom false (some p) (l.drop (0+1)):=by
        rw [HR.out,HDR.out];exact chkFrom_first HB.out
       have HN:Hid (chkFrom false none l=chkFrom false (pv l (0+1)) (l.drop (0+1))):=by unfold Hid;rw [hnew];unfold pv;rw [if_neg (by omega)];rw [show 0+1-1=0 from rfl,HSP.out]
       clear hnew;simp only [Nat.zero_mul,Nat.add_zero] at hck hck'
       go_wp2_with fail
       go_quiet (fail)
       go_wp2;go_roundw
       case rel=>exact ⟨0+1,by omega,by go_num,HN.out,hG9,below_drewN hb9 _⟩
       case measure=>simp [intOf];omega
      ·obtain ⟨k,rfl⟩:∃ j,k=j+1:=⟨k-1,by omega⟩;obtain ⟨ck,ck'⟩:=HC.out k (by omega);have hcp:=(hb9.cell (p:=⟨b,o+k*2+1,none⟩) hb).trans ck';have hpv:pv l (k+1)=some (l[k]?.getD (0,0)).2:=by unfold pv;rw [if_neg (by omega)];rfl
       generalize hpe:(l[k]?.getD (0,0)).2=v at *;have hR2:chkFrom false none l=if flw false v p then chkFrom false (some p) (l.drop (k+1+1)) else 3:=by
        rw [HR.out,HDR.out,hpv];exact chkFrom_next HB.out
       have HR2:=Hj hR2;have HPV:Hid (pv l (k+1+1)=some p):=by unfold Hid pv;rw [if_neg (by omega)];rw [show k+1+1-1=k+1 from rfl,HSP.out]
       have hkp:(0:Int)<(k:Int)+1:=by omega
       have hkw:IntKind.i64.wrap ((k:Int)+1-1)=(k:Int):=by rw [show (k:Int)+1-1=k by omega];exact IntWalk.i64_in _ (by omega)
       have hkn:(k:Int)<(n:Int):=by omega
       have hk00:(0:Int)≤(k:Int):=by omega
       clear ck ck' hR2 hpv hpe hk0;cases hfl:flw false v p
       ·have e:chkFrom false none l=3:=by rw [HR2.out,hfl];rfl
        have E:=Hj e;clear e HR2;have T:=fun W=>falling_f v p W;rw [hfl] at T;have T:=Hj T;clear hfl
        go_wp2_with fail
        go_quiet ((go_at_call 177;exact quiet_left (T.out _)))
        go_wp2;go_ret;rw [E.out];exact ⟨rfl,below_drewN hb9 _⟩
       ·have e:chkFrom false none l=chkFrom false (pv l (k+1+1)) (l.drop (k+1+1)):=by rw [HR2.out,hfl,HPV.out];rfl
        have E:=Hj e;clear e HR2;have T:=fun W=>falling_f v p W;rw [hfl] at T;have T:=Hj T;clear hfl
        go_wp2_with fail
        go_quiet ((go_at_call 177;exact quiet_left (T.out _)))
        go_wp2;go_roundw
        case rel=>exact ⟨k+1+1,by omega,by go_num,E.out,hG9,below_drewN hb9 _⟩
        case measure=>simp [intOf];omega
    ·obtain rfl:k=n:=by omega
     have e:chkFrom false none l=0:=by rw [HR.out,List.drop_of_length_le (by rw [HL.out];exact Nat.le_refl _)];exact chkFrom_nil _ _
     have E:=Hj e;clear e;go_wp2;go_ret;rw [E.out];exact ⟨rfl,hB⟩
theorem rising_any (w:World):Calls Tryz.prog 119 #[] w fun e w'=>e=.returned (.agg #[.func (.func 157) #[] #[]])∧Below w.heap.size w w':=by
 go_enter Tryz.func119,Tryz.ntmps119;go_wp2;refine bodyPost_ret (v:=.agg #[.func (.func 157) #[] #[]]) ?_ rfl ⟨rfl,(Below.refl _ _).alloc (Nat.le_refl _) _⟩;simp [results,Tryz.results119,go_sem]
theorem checkOffer_any (A:Option Addr) (n c:Nat) (l:List (Int×Int)) (w:World) (h:StAt w A n l) (hm:n≤1000000000000) :
  Calls Tryz.prog 69 #[.slice A n c] w fun e w'=>e=.returned (.int .i64 (chk true l))∧Below w.heap.size w w':=by
 have T:=fun W hW=>dcheck_up A n c l W hW hm;generalize chk true l=x at *;have T:=Hj T;go_enter Tryz.func69,Tryz.ntmps69
 go_wp2_with fail
 refine (rising_any w).mono ?_;rintro e w1 ⟨rfl,hb1⟩
 go_wp2_with fail
 refine (T.out w1 (h.below hb1)).mono ?_;rintro e w2 ⟨rfl,hb2⟩;go_wp2;go_ret;exact ⟨rfl,hb1.trans (hb2.mono hb1.size)⟩
theorem falling_any (w:World):Calls Tryz.prog 126 #[] w fun e w'=>e=.returned (.agg #[.func (.func 177) #[] #[]])∧Below w.heap.size w w':=by
 go_enter Tryz.func126,Tryz.ntmps126;go_wp2;refine bodyPost_ret (v:=.agg #[.func (.func 177) #[] #[]]) ?_ rfl ⟨rfl,(Below.refl _ _).alloc (Nat.le_refl _) _⟩;simp [results,Tryz.results126,go_sem]
theorem checkBid_any (A:Option Addr) (n c:Nat) (l:List (Int×Int)) (w:World) (h:StAt w A n l) (hm:n≤1000000000000) :
  Calls Tryz.prog 73 #[.slice A n c] w fun e w'=>e=.returned (.int .i64 (chk false l))∧Below w.heap.size w w':=by
 have T:=fun W hW=>dcheck_dn A n c l W hW hm;generalize chk false l=x at *;have T:=Hj T;go_enter Tryz.func73,Tryz.ntmps73
 go_wp2_with fail
 refine (falling_any w).mono ?_;rintro e w1 ⟨rfl,hb1⟩
 go_wp2_with fail
 refine (T.out w1 (h.below hb1)).mono ?_;rintro e w2 ⟨rfl,hb2⟩;go_wp2;go_ret;exact ⟨rfl,hb1.trans (hb2.mono hb1.size)⟩
theorem chk_len {up:Bool} {l:List (Int×Int)} (h:chk up l=0):l.length≤3:=by
 unfold chk at h;split at h
 ·cases h
 ·split at h
  ·cases h
  ·omega
theorem chkFrom_ok {up:Bool} {l:List (Int×Int)}:∀ {prev:Option Int},chkFrom up prev l=0→∀ s∈l,¬ Bad s.1 s.2:=by
 induction l with
 | nil=>intro _ _ s hs;cases hs
 | cons x r ih =>
  intro prev h s hs;obtain ⟨q,p⟩:=x;by_cases hb:Bad q p
  ·rw [chkFrom_bad hb] at h;cases h
  ·cases prev with
   | none =>
    rw [chkFrom_first hb] at h;rcases List.mem_cons.1 hs with rfl|hs
    ·exact hb
    ·exact ih h s hs
   | some v =>
    rw [chkFrom_next hb] at h;split at h
    ·rcases List.mem_cons.1 hs with rfl|hs
     ·exact hb
     ·exact ih h s hs
    ·cases h
theorem chk_ok {up:Bool} {l:List (Int×Int)} (h:chk up l=0):l.length≠0∧l.length≤3∧chkFrom up none l=0∧∀ s∈l,¬ Bad s.1 s.2:=by
 have hl:=chk_len h;unfold chk at h;split at h
 ·cases h
 ·rw [if_neg (by omega)] at h;exact ⟨by assumption,hl,h,chkFrom_ok h⟩
end Go.Proofs.YtjajigkacccdgaaGreat
