/-
Lemmas of the walk; no further conditions.
-/
import Derived.Test.YtjajigkacccdgaaGreatTiAH
import Derived.Laws.EntriesVeiled
set_option linter.unusedVariables false
set_option linter.unusedSimpArgs false
set_option maxRecDepth 100000
set_option maxHeartbeats 16000000
namespace Go.Proofs.YtjajigkacccdgaaGreat
open Go.RowKit Go.Shelf
open Wd
attribute [local go_sem] Oper.semAt_some
def rowC (cap:Nat) (ds:List Nat):Array Value:=(u32s (ds ++ List.replicate (cap-ds.length) 0)).toArray
theorem rowC_start (cap:Nat):madeCells #[.int .u32 0] cap=rowC cap []:=by
 rw [wcells_zero];simp [wcells,rowC]
theorem rowC_next {w:World} {g cap k:Nat} {ds:List Nat} (h:Blk w g 59 (rowC cap ds)) (hd:ds.length=k) (hk:k+1≤cap):w.cell? ⟨g,k,none⟩=some (.int .u32 0):=by
 rw [h.cell k];subst hd;simp [rowC,u32s,show 0<cap-ds.length by omega]
theorem rowC_set {cap k d:Nat} {ds:List Nat} (hd:ds.length=k) (hk:k+1≤cap):(rowC cap ds).setIfInBounds k (.int .u32 (d:Int))=rowC cap (ds ++ [d]):=by
 subst hd;unfold rowC u32s;have e:cap-ds.length=(cap-(ds ++ [d]).length)+1:=by simp;omega
 rw [e,List.replicate_succ];simp
theorem blk_own {β:Type} (B:Nat) (t:TypeId) (f:β→Array Value):Go.Own (fun s W=>Blk W B t (f s)):=fun s X Y row hs hg hrow =>
 (hg.block B (Blk.lt hs) (fun e'=>by obtain ⟨o,ho,hc⟩:=hrow B e'.symm;rw [show X.heap[B]?=_ from hs] at ho;cases ho;cases hc)).trans hs
theorem pairs_in (n:Nat) (A A':Option Addr) (la lb ca cb:Nat) (w:World) :
  CallsIn Fence.wide n Tryz.prog 220 #[.slice A la ca,.slice A' lb cb] w fun e w'=>e=.returned (.func (.func 226) #[] #[.pointer (some ⟨w.heap.size,0,none⟩),.pointer (some ⟨w.heap.size+1,0,none⟩)])∧w'=(w.alloc (.cells #[.slice A la ca] 38)).alloc (.cells #[.slice A' lb cb] 38):=by
 have hmf:∀ (fn:Fn) (first cap:Array Value) (w:World),(Instr.makeFunc fn first cap).run Tryz.prog w=.ok (.func fn first cap) w:=fun _ _ _ _=>rfl;refine callsIn_of_wp Tryz.func220 rfl trivial ?_ rfl;simp only [Tryz.ntmps220,List.size_toArray,List.length_cons,List.length_nil,Nat.reduceAdd,Nat.reduceSub,Array.replicate_succ,Array.replicate_zero,List.push_toArray,List.append_toArray,List.nil_append,List.cons_append]
 gi_wp2
 go_ret;exact ⟨rfl,rfl⟩
theorem pairs_stops (n:Nat) (hn:1≤n) (Ba Bb n₀:Nat) (A A':Option Addr) (la lb ca cb:Nat) (l l':List Nat) (h:Ws l) (h':Ws l') (hla:la≤10000000000) (hlb:lb≤10000000000) (w:World) (hBa:w.cell? ⟨Ba,0,none⟩=some (.slice A la ca)) (hBb:w.cell? ⟨Bb,0,none⟩=some (.slice A' lb cb)) (hba:Ba<w.heap.size) (hbb:Bb<w.heap.size) (hn₀:n₀≤w.heap.size) (ha:WatB n₀ w A la l) (hb:WatB n₀ w A' lb l') :
  SeqStopsK Fence.wide n Tryz.prog 226 #[.pointer (some ⟨Ba,0,none⟩),.pointer (some ⟨Bb,0,none⟩)] PW.enc (KpB n₀ Ba Bb) (fun ys=>ys=pws l l' h h' (max la lb)) (fun pre=>∃ k,k≤max la lb∧pre=pws l l' h h' k) (max la lb) w:=fun r J Jx W hW _ _ hY h0 =>
 pairs1_in n hn r Ba Bb n₀ A A' la lb ca cb l l' h h' J Jx hla hlb hY W ((hW.cell (p:=⟨Ba,0,none⟩) hba).trans hBa) ((hW.cell (p:=⟨Bb,0,none⟩) hbb).trans hBb) (ha.below (hW.mono hn₀)) (hb.below (hW.mono hn₀)) h0
theorem next_nat (g x c:Nat) (y:Int) (hy:y=(x:Int)) (w:World) (hg:Blk w g 164 #[.int .u64 (c:Int)]) (hx:x+c<18446744073709551616) :
  Calls Tryz.prog 217 #[.int .u64 y,.pointer (some ⟨g,0,none⟩)] w fun e w'=>e=.returned (.int .u32 (((x+c) % 4294967296:Nat):Int))∧w.setCell ⟨g,0,none⟩ (.int .u64 (((x+c) / 4294967296:Nat):Int))=w':=by
 subst hy;have h:=next_any g (x:Int) (c:Int) w hg (by omega) (by omega) (by omega);rw [show ((x:Int)+(c:Int)) % 4294967296=(((x+c) % 4294967296:Nat):Int) by omega,show ((x:Int)+(c:Int)) / 4294967296=(((x+c) / 4294967296:Nat):Int) by omega] at h;exact h
def sumsP (pre:List PW):List Nat:=pre.map fun x=>x.1.1+x.1.2
theorem sumsP_snoc (pre:List PW) (x:PW):sumsP (pre ++ [x])=sumsP pre ++ [x.1.1+x.1.2]:=by simp [sumsP]
theorem sumsP_all (l l':List Nat) (h:Ws l) (h':Ws l') (m:Nat):sumsP (pws l l' h h' m)=sumW l l' m:=by
 unfold sumsP pws sumW;rw [List.map_map]
 rfl
theorem sumsP_carry (pre:List PW):cout 0 (sumsP pre)<2:=by
 refine cout_lt (by decide) (by decide) fun t ht=>?_;obtain ⟨x,_,rfl⟩:=List.mem_map.1 ht;have:=x.2;omega
def RdI (w0:World) (g cap:Nat) (FV AA BB:Value) (ds:List Nat) (k c:Nat) (W:World):Prop :=
 (Blk W g 59 (rowC cap ds)∧Blk W (g+1) 38 #[.slice (some ⟨g,0,none⟩) k cap]∧Blk W (g+1+1) 164 #[.int .u64 (c:Int)]∧Blk W (g+1+1+1) 203 #[FV]∧Blk W (g+1+1+1+1) 38 #[AA]∧Blk W (g+1+1+1+1+1) 38 #[BB])∧Below g w0 W
theorem KeepsFrom.set' {B:Nat} (W:World) {p:Addr} (v:Value) (hp:p.block<B):KeepsFrom B W (W.setCell p v) :=
 ⟨by rw [World.size_setCell];exact Nat.le_refl _,fun k o hB hk _=>(Below.heap_setCell W p v k (by omega)).trans hk⟩
theorem KeepsFrom.alloc' {B:Nat} (W:World) (o:Obj):KeepsFrom B W (W.alloc o) :=
 ⟨by simp,fun k o' hB hk _=>(Below.heap_alloc W o k (Array.getElem?_eq_some_iff.1 hk).1).trans hk⟩
theorem KeepsFrom.drew' {B:Nat} (W:World):KeepsFrom B W W.drew:=⟨Nat.le_refl _,fun k o hB hk _=>hk⟩
theorem RdI.step {w0 W:World} {g cap k c d c':Nat} {FV AA BB:Value} {ds:List Nat} (h:RdI w0 g cap FV AA BB ds k c W) (hd:ds.length=k) (hk:k+1≤cap) (o:Obj) {B:Nat} (hB:g+2<B) :
  KeepsFrom B W ((((W.drew.setCell ⟨g+1+1,0,none⟩ (.int .u64 (c':Int))).alloc o).setCell ⟨g,k,none⟩ (.int .u32 (d:Int))).setCell ⟨g+1,0,none⟩ (.slice (some ⟨g,0,none⟩) (k+1) cap)) ∧
  KpB g (g+1+1+1+1) (g+1+1+1+1+1) W ((((W.drew.setCell ⟨g+1+1,0,none⟩ (.int .u64 (c':Int))).alloc o).setCell ⟨g,k,none⟩ (.int .u32 (d:Int))).setCell ⟨g+1,0,none⟩ (.slice (some ⟨g,0,none⟩) (k+1) cap)) ∧
  RdI w0 g cap FV AA BB (ds ++ [d]) (k+1) c' ((((W.drew.setCell ⟨g+1+1,0,none⟩ (.int .u64 (c':Int))).alloc o).setCell ⟨g,k,none⟩ (.int .u32 (d:Int))).setCell ⟨g+1,0,none⟩ (.slice (some ⟨g,0,none⟩) (k+1) cap)):=by
 obtain ⟨⟨b0,b1,b2,b3,b4,b5⟩,hb⟩:=h;have far:∀ {B:Nat} {t:TypeId} {cs:Array Value},Blk W B t cs→B≠g→B≠g+1→B≠g+1+1→Blk ((((W.drew.setCell ⟨g+1+1,0,none⟩ (.int .u64 (c':Int))).alloc o).setCell ⟨g,k,none⟩ (.int .u32 (d:Int))).setCell ⟨g+1,0,none⟩ (.slice (some ⟨g,0,none⟩) (k+1) cap)) B t cs:=fun {B t cs} hx h0 h1 h2 =>
  Blk.far (Blk.far (Blk.alloc (Blk.far (Blk.drew hx) (p:=⟨g+1+1,0,none⟩) h2 _) o) (p:=⟨g,k,none⟩) h0 _) (p:=⟨g+1,0,none⟩) h1 _
 have f4:=far b4 (by omega) (by omega) (by omega);have f5:=far b5 (by omega) (by omega) (by omega);have hbl:Below g W ((((W.drew.setCell ⟨g+1+1,0,none⟩ (.int .u64 (c':Int))).alloc o).setCell ⟨g,k,none⟩ (.int .u32 (d:Int))).setCell ⟨g+1,0,none⟩ (.slice (some ⟨g,0,none⟩) (k+1) cap)) :=
  Below.setCell (Below.setCell (Below.alloc (Below.setCell (Below.drew (Below.refl g W)) (p:=⟨g+1+1,0,none⟩) (by dsimp only;omega) _) (by have:=b0.lt;simp only [World.size_setCell];exact Nat.le_of_lt this) o) (p:=⟨g,k,none⟩) (Nat.le_refl _) _) (p:=⟨g+1,0,none⟩) (by dsimp only;omega) _
 refine ⟨?_,⟨hbl,?_,?_⟩,⟨?_,?_,?_,far b3 (by omega) (by omega) (by omega),f4,f5⟩,hb.trans hbl⟩
 ·exact KeepsFrom.trans (KeepsFrom.trans (KeepsFrom.trans (KeepsFrom.trans (KeepsFrom.drew' W) (KeepsFrom.set' _ _ (by dsimp only;omega))) (KeepsFrom.alloc' _ o)) (KeepsFrom.set' _ _ (by dsimp only;omega))) (KeepsFrom.set' _ _ (by dsimp only;omega))
 ·exact f4.trans (show W.heap[g+1+1+1+1]?=_ from b4).symm
 ·exact f5.trans (show W.heap[g+1+1+1+1+1]?=_ from b5).symm
 ·have:=Blk.far (Blk.set (Blk.alloc (Blk.far (Blk.drew b0) (p:=⟨g+1+1,0,none⟩) (by dsimp only;omega) (.int .u64 (c':Int))) o) k (.int .u32 (d:Int))) (p:=⟨g+1,0,none⟩) (by dsimp only;omega) (.slice (some ⟨g,0,none⟩) (k+1) cap)
  rwa [rowC_set hd hk] at this
 ·exact Blk.set (Blk.far (Blk.alloc (Blk.far (Blk.drew b1) (p:=⟨g+1+1,0,none⟩) (by dsimp only;omega) _) o) (p:=⟨g,k,none⟩) (by dsimp only;omega) _) 0 _
 ·exact Blk.far (Blk.far (Blk.alloc (Blk.set (Blk.drew b2) 0 _) o) (p:=⟨g,k,none⟩) (by dsimp only;omega) _) (p:=⟨g+1,0,none⟩) (by dsimp only;omega) _
theorem RdI.read {w0 W:World} {g cap k c:Nat} {FV AA BB:Value} {ds:List Nat} (h:RdI w0 g cap FV AA BB ds k c W) (hd:ds.length=k) (hk:k+1≤cap) (v1 v3:Value) (o:Obj) :
  (W.cell? ⟨g+1,0,none⟩=some (.slice (some ⟨g,0,none⟩) k cap)∧W.cell? ⟨g+1+1+1,0,none⟩=some FV) ∧
  ((W.setCell ⟨g+1+1,0,none⟩ v1).cell? ⟨g+1,0,none⟩=some (.slice (some ⟨g,0,none⟩) k cap)∧(W.setCell ⟨g+1+1,0,none⟩ v1).cell? ⟨g+1+1+1,0,none⟩=some FV) ∧
  (((W.setCell ⟨g+1+1,0,none⟩ v1).alloc o).cell? ⟨g+1,0,none⟩=some (.slice (some ⟨g,0,none⟩) k cap)∧((W.setCell ⟨g+1+1,0,none⟩ v1).alloc o).cell? ⟨g+1+1+1,0,none⟩=some FV∧((W.setCell ⟨g+1+1,0,none⟩ v1).alloc o).cell? ⟨g,k,none⟩=some (.int .u32 0)∧((W.setCell ⟨g+1+1,0,none⟩ v1).alloc o).frozen? ⟨g,k,none⟩=false) ∧
  ((((W.setCell ⟨g+1+1,0,none⟩ v1).alloc o).setCell ⟨g,k,none⟩ v3).cell? ⟨g+1,0,none⟩=some (.slice (some ⟨g,0,none⟩) k cap)∧(((W.setCell ⟨g+1+1,0,none⟩ v1).alloc o).setCell ⟨g,k,none⟩ v3).frozen? ⟨g+1,0,none⟩=false∧(((W.setCell ⟨g+1+1,0,none⟩ v1).alloc o).setCell ⟨g,k,none⟩ v3).cell? ⟨g+1+1+1,0,none⟩=some FV):=by
 obtain ⟨⟨b0,b1,b2,b3,b4,b5⟩,hb⟩:=h;have x1:=b1.far (p:=⟨g+1+1,0,none⟩) (by dsimp only;omega) v1;have x3:=b3.far (p:=⟨g+1+1,0,none⟩) (by dsimp only;omega) v1;have x0:=b0.far (p:=⟨g+1+1,0,none⟩) (by dsimp only;omega) v1;have y1:=x1.alloc o;have y3:=x3.alloc o;have y0:=x0.alloc o;have z1:=y1.far (p:=⟨g,k,none⟩) (by dsimp only;omega) v3;have z3:=y3.far (p:=⟨g,k,none⟩) (by dsimp only;omega) v3;exact ⟨⟨b1.cell 0,b3.cell 0⟩,⟨x1.cell 0,x3.cell 0⟩,⟨y1.cell 0,y3.cell 0,rowC_next y0 hd hk,y0.frozen k⟩,⟨z1.cell 0,z1.frozen 0,z3.cell 0⟩⟩
theorem RdI.drew {w0 W:World} {g cap k c:Nat} {FV AA BB:Value} {ds:List Nat} (h:RdI w0 g cap FV AA BB ds k c W):RdI w0 g cap FV AA BB ds k c W.drew:=⟨h.1,Below.drew h.2⟩
theorem OnlyN.mk {Q:Exit→Act→World→Prop} {a:Act} {w:World} (h:Q .normal a w):OnlyN Q .normal a w:=h
theorem RdI.last {w0 W:World} {g m c d c':Nat} {FV AA BB:Value} {ds:List Nat} (h:RdI w0 g (m+1) FV AA BB ds m c W) (hd:ds.length=m) (o:Obj) {D:Nat} {o1 o2:Obj} (hD:g+5<D) (hg:g=w0.heap.size) (hDW:W.heap[D]?=some o1) (h1:o1.isCells=false) (h2:o1.isWalk=false) :
  (((W.drew.setCell ⟨g+1+1,0,none⟩ (.int .u64 (c':Int))).alloc o).setCell ⟨g,m,none⟩ (.int .u32 (d:Int))).heap[D]?=some o1 ∧
  Blk ((((W.drew.setCell ⟨g+1+1,0,none⟩ (.int .u64 (c':Int))).alloc o).setCell ⟨g,m,none⟩ (.int .u32 (d:Int))).putObj D o2) g 59 (wcells (ds ++ [d])) ∧
  Below g w0 ((((W.drew.setCell ⟨g+1+1,0,none⟩ (.int .u64 (c':Int))).alloc o).setCell ⟨g,m,none⟩ (.int .u32 (d:Int))).putObj D o2):=by
 obtain ⟨⟨b0,b1,b2,b3,b4,b5⟩,hb⟩:=h;have hDs:=(Array.getElem?_eq_some_iff.1 hDW).1;have e1:(W.drew.setCell ⟨g+1+1,0,none⟩ (.int .u64 (c':Int))).heap[D]?=some o1:=(Below.heap_setCell _ ⟨g+1+1,0,none⟩ _ D (show D≠g+1+1 by omega)).trans hDW;have e2:((W.drew.setCell ⟨g+1+1,0,none⟩ (.int .u64 (c':Int))).alloc o).heap[D]?=some o1:=(Below.heap_alloc _ o D (by rw [World.size_setCell];exact hDs)).trans e1;have e3:(((W.drew.setCell ⟨g+1+1,0,none⟩ (.int .u64 (c':Int))).alloc o).setCell ⟨g,m,none⟩ (.int .u32 (d:Int))).heap[D]?=some o1:=(Below.heap_setCell _ ⟨g,m,none⟩ _ D (show D≠g by omega)).trans e2;have x0:=Blk.set (Blk.alloc (Blk.far (Blk.drew b0) (p:=⟨g+1+1,0,none⟩) (by dsimp only;omega) (.int .u64 (c':Int))) o) m (.int .u32 (d:Int));rw [rowC_set hd (Nat.le_refl _)] at x0;have er:rowC (m+1) (ds ++ [d])=wcells (ds ++ [d]):=by
  unfold rowC wcells;rw [show m+1-(ds ++ [d]).length=0 by simp [hd]];simp
 rw [er] at x0;have hbl:Below g W (((W.drew.setCell ⟨g+1+1,0,none⟩ (.int .u64 (c':Int))).alloc o).setCell ⟨g,m,none⟩ (.int .u32 (d:Int))) :=
  Below.setCell (Below.alloc (Below.setCell (Below.drew (Below.refl g W)) (p:=⟨g+1+1,0,none⟩) (by dsimp only;omega) _) (by have:=b0.lt;simp only [World.size_setCell];exact Nat.le_of_lt this) o) (p:=⟨g,m,none⟩) (Nat.le_refl _) _
 have hp:Below w0.heap.size (((W.drew.setCell ⟨g+1+1,0,none⟩ (.int .u64 (c':Int))).alloc o).setCell ⟨g,m,none⟩ (.int .u32 (d:Int))) ((((W.drew.setCell ⟨g+1+1,0,none⟩ (.int .u64 (c':Int))).alloc o).setCell ⟨g,m,none⟩ (.int .u32 (d:Int))).putObj D o2) :=
  belowK_b (w:=w0) (Nat.le_refl _) _ D o1 o2 (by omega) e3 h1 h2
 refine ⟨e3,?_,(hb.trans hbl).trans (hp.mono (by omega))⟩;have hblk:∀ X:World,Blk X g 59 (wcells (ds ++ [d]))→Blk (X.putObj D o2) g 59 (wcells (ds ++ [d])):=fun X hX=>by
  unfold Blk at hX ⊢;simp only [World.putObj];rw [← hX];simp [Array.getElem?_setIfInBounds,Array.set!_eq_setIfInBounds,show D≠g by omega]
 exact hblk _ x0
theorem RdI.readN {w0 W:World} {g cap k c:Nat} {FV AA BB:Value} {ds:List Nat} (h:RdI w0 g cap FV AA BB ds k c W) (hd:ds.length=k) (hk:k+1≤cap) (v1 v3:Value) (o:Obj) :
  (W.cell? ⟨g+1,0,none⟩=some (.slice (some ⟨g,0,none⟩) k cap)∧W.cell? ⟨g+1+1+1,0,none⟩=some FV) ∧
  ((W.setCell ⟨g+1+1,0,none⟩ v1).cell? ⟨g+1,0,none⟩=some (.slice (some ⟨g,0,none⟩) k cap)∧(W.setCell ⟨g+1+1,0,none⟩ v1).cell? ⟨g+1+1+1,0,none⟩=some FV) ∧
  ((((W.setCell ⟨g+1+1,0,none⟩ v1).alloc o).cell? ⟨g+1,0,none⟩=some (.slice (some ⟨g,0,none⟩) k cap)∧((W.setCell ⟨g+1+1,0,none⟩ v1).alloc o).cell? ⟨g+1+1+1,0,none⟩=some FV)∧((W.setCell ⟨g+1+1,0,none⟩ v1).alloc o).cell? ⟨g,k,none⟩=some (.int .u32 0)∧((W.setCell ⟨g+1+1,0,none⟩ v1).alloc o).frozen? ⟨g,k,none⟩=false) ∧
  ((((W.setCell ⟨g+1+1,0,none⟩ v1).alloc o).setCell ⟨g,k,none⟩ v3).cell? ⟨g+1,0,none⟩=some (.slice (some ⟨g,0,none⟩) k cap)∧(((W.setCell ⟨g+1+1,0,none⟩ v1).alloc o).setCell ⟨g,k,none⟩ v3).cell? ⟨g+1+1+1,0,none⟩=some FV):=by
 obtain ⟨h1,h2,⟨h3,h4,h5,h6⟩,h7,_,h8⟩:=h.read hd hk v1 v3 o;exact ⟨h1,h2,⟨⟨h3,h4⟩,h5,h6⟩,h7,h8⟩
end Go.Proofs.YtjajigkacccdgaaGreat
namespace Go.Proofs.YtjajigkacccdgaaGreat
namespace Wd
theorem val_take_succ (l:List Nat) (i:Nat):val (l.take (i+1))=val (l.take i)+4294967296 ^ i*l[i]?.getD 0:=by
 by_cases h:i<l.length
 ·rw [List.take_add_one,List.getElem?_eq_getElem h];show val (l.take i ++ [l[i]])=_;rw [val_snoc,List.length_take,Nat.min_eq_left (by omega)]
  rfl
 ·rw [List.take_of_length_le (by omega),List.take_of_length_le (by omega),List.getElem?_eq_none (by omega)];simp
theorem val_drop_succ (l:List Nat) (i:Nat):val (l.drop i)=l[i]?.getD 0+4294967296*val (l.drop (i+1)):=by
 by_cases h:i<l.length
 ·rw [List.drop_eq_getElem_cons h,val_cons,List.getElem?_eq_getElem h]
  rfl
 ·rw [List.drop_eq_nil_of_le (by omega),List.drop_eq_nil_of_le (by omega),List.getElem?_eq_none (by omega)]
  rfl
theorem getD_drop (l:List Nat) (k i:Nat):(l.drop k)[i]?.getD 0=l[k+i]?.getD 0:=by rw [List.getElem?_drop]
structure SdInv (l:List Nat) (y i:Nat) (p:List Nat) (r:Nat):Prop where
 len:p.length=l.length
 ws:Ws p
 low:∀ j,j<i→p[j]?.getD 0=l[j]?.getD 0
 eq:val (l.drop i)=y*val (p.drop i)+r
 rest:r<y
theorem SdInv.start {l:List Nat} {y:Nat} (h:Ws l) (hy:0<y):SdInv l y l.length l 0:=⟨rfl,h,fun _ _=>rfl,by simp [val_nil],hy⟩
theorem SdInv.step {l p:List Nat} {y i r:Nat} (h:SdInv l y (i+1) p r) (hl:Ws l) (hi:i<l.length) (hy:y<4294967296) :
  SdInv l y i (p.set i ((r*4294967296+l[i]?.getD 0) / y)) ((r*4294967296+l[i]?.getD 0) % y)∧(r*4294967296+l[i]?.getD 0) / y<4294967296∧r*4294967296+l[i]?.getD 0<18446744073709551616:=by
 have hd:=hl.get i;have hr:=h.rest;have hx:r*4294967296+l[i]?.getD 0<y*4294967296:=by
  have:(r+1)*4294967296≤y*4294967296:=Nat.mul_le_mul_right _ hr;omega
 have hq:(r*4294967296+l[i]?.getD 0) / y<4294967296:=by
  rw [Nat.div_lt_iff_lt_mul (by omega)];omega
 refine ⟨⟨by rw [List.length_set];exact h.len,h.ws.set i hq,fun j hj=>?_,?_,Nat.mod_lt _ (by omega)⟩,hq,by omega⟩
 ·rw [get_set_other _ (by omega)];exact h.low j (by omega)
 ·have e1:(p.set i ((r*4294967296+l[i]?.getD 0) / y)).drop (i+1)=p.drop (i+1):=by rw [List.drop_set_of_lt (by omega)]
  have e2:(p.set i ((r*4294967296+l[i]?.getD 0) / y))[i]?.getD 0=(r*4294967296+l[i]?.getD 0) / y:=by rw [List.getElem?_set,if_pos rfl,if_pos (by rw [h.len];exact hi)];rfl
  rw [val_drop_succ l i,val_drop_succ (p.set i _) i,e1,e2,h.eq];have hdm:=Nat.div_add_mod (r*4294967296+l[i]?.getD 0) y;generalize (r*4294967296+l[i]?.getD 0) / y=q at *;generalize (r*4294967296+l[i]?.getD 0) % y=m at *;rw [Nat.mul_add,Nat.mul_add,Nat.mul_left_comm];omega
theorem SdInv.done {l p:List Nat} {y r:Nat} (h:SdInv l y 0 p r):val p=val l / y∧r=val l % y:=by
 have h1:=h.eq;have h2:=h.rest;simp only [List.drop_zero] at h1;have h3:=Nat.div_mod_unique (a:=val l) (b:=y) (c:=r) (d:=val p) (by omega);have h4:=h3.2 ⟨by rw [h1];omega,h2⟩;exact ⟨h4.1.symm,h4.2.symm⟩
structure SmInv (u v:List Nat) (f i:Nat) (p:List Nat) (c b:Nat):Prop where
 len:p.length=u.length
 ws:Ws p
 high:∀ j,i≤j→p[j]?.getD 0=u[j]?.getD 0
 carry:c<4294967296
 borrow:b≤1
 none:v.length<i→c=0
 eq:val (u.take i)+4294967296 ^ i*(b+c)=val (p.take i)+f*val (v.take i)
theorem SmInv.start {u:List Nat} (v:List Nat) (f:Nat) (hu:Ws u):SmInv u v f 0 u 0 0:=⟨rfl,hu,fun _ _=>rfl,by decide,by decide,fun _=>rfl,by simp [val_nil]⟩
def lessW (x y:Nat):Nat:=if y≤x then x-y else x+4294967296-y
def lessB (x y:Nat):Nat:=if y≤x then 0 else 1
theorem SmInv.step {u v p:List Nat} {f i c b:Nat} (h:SmInv u v f i p c b) (hu:Ws u) (hv:Ws v) (hf:f≤4294967296) (hi:i<u.length) :
  v[i]?.getD 0*f+c<18446744073709551616∧SmInv u v f (i+1) (p.set i (lessW (u[i]?.getD 0) ((v[i]?.getD 0*f+c) % 4294967296+b))) ((v[i]?.getD 0*f+c) / 4294967296) (lessB (u[i]?.getD 0) ((v[i]?.getD 0*f+c) % 4294967296+b)):=by
 have hvi:=hv.get i;have hui:=hu.get i;have hc:=h.carry;have hb:=h.borrow;have hm:v[i]?.getD 0*f≤4294967295*4294967296:=Nat.mul_le_mul (by omega) hf;have hx:v[i]?.getD 0*f+c<18446744073709551616:=by omega
 have hz:v.length<i+1→(v[i]?.getD 0*f+c) / 4294967296=0:=fun hlt=>by
  rw [List.getElem?_eq_none (by omega)];simp only [Option.getD_none,Nat.zero_mul,Nat.zero_add];exact Nat.div_eq_of_lt hc
 have ht:=val_take_succ v i;have htu:=val_take_succ u i;have htp:=val_take_succ (p.set i (lessW (u[i]?.getD 0) ((v[i]?.getD 0*f+c) % 4294967296+b))) i;have hts:(p.set i (lessW (u[i]?.getD 0) ((v[i]?.getD 0*f+c) % 4294967296+b))).take i=p.take i:=List.take_set_of_le (Nat.le_refl i);rw [hts,List.getElem?_set,if_pos rfl,if_pos (by rw [h.len];exact hi)] at htp;simp only [Option.getD_some] at htp;have hdm:=Nat.div_add_mod (v[i]?.getD 0*f+c) 4294967296;have hml:(v[i]?.getD 0*f+c) % 4294967296<4294967296:=Nat.mod_lt _ (by decide);have he:=h.eq;refine ⟨hx,⟨by rw [List.length_set];exact h.len,h.ws.set i ?_,fun j hj=>?_,?_,?_,hz,?_⟩⟩
 ·unfold lessW;split<;>omega
 ·rw [get_set_other _ (by omega)];exact h.high j (by omega)
 ·rw [Nat.div_lt_iff_lt_mul (by decide)];omega
 ·unfold lessB;split<;>omega
 ·rw [ht,htu,htp,Nat.mul_add f,Nat.mul_left_comm f,Nat.pow_succ];have key:u[i]?.getD 0+4294967296*lessB (u[i]?.getD 0) ((v[i]?.getD 0*f+c) % 4294967296+b)=lessW (u[i]?.getD 0) ((v[i]?.getD 0*f+c) % 4294967296+b)+((v[i]?.getD 0*f+c) % 4294967296+b):=by
   unfold lessB lessW;split<;>omega
  rw [Nat.mul_comm (v[i]?.getD 0) f] at *;generalize lessB (u[i]?.getD 0) ((f*v[i]?.getD 0+c) % 4294967296+b)=b' at *;generalize lessW (u[i]?.getD 0) ((f*v[i]?.getD 0+c) % 4294967296+b)=d at *;generalize (f*v[i]?.getD 0+c) / 4294967296=c' at *;generalize (f*v[i]?.getD 0+c) % 4294967296=m at *;have k2:u[i]?.getD 0+4294967296*(b'+c')=d+(b+(f*v[i]?.getD 0+c)):=by omega
  generalize hP:4294967296 ^ i=P at *;have k3:=congrArg (fun z=>P*z) k2;simp only [Nat.mul_add] at k3 he ⊢;rw [Nat.mul_assoc,Nat.mul_assoc];omega
theorem SmInv.done {u v p:List Nat} {f c b:Nat} (h:SmInv u v f u.length p c b) (hv:v.length<u.length):(b=0→val u=val p+f*val v)∧(b≠0→val u+4294967296 ^ u.length=val p+f*val v):=by
 have h1:=h.eq;have h2:=h.borrow;rw [h.none hv,List.take_length,List.take_of_length_le (show v.length≤u.length by omega),List.take_of_length_le (show p.length≤u.length by rw [h.len];exact Nat.le_refl _)] at h1;refine ⟨fun hb=>?_,fun hb=>?_⟩
 ·subst hb;omega
 ·obtain rfl:b=1:=by omega
  omega
theorem digit_rest {u p v:List Nat} {g b c:Nat} (hsm:SmInv u v g u.length p c b) (hu:Ws u) (hv:Ws v) (hl:u.length=v.length+1) (hV:0<val v) (h1:val u / val v≤g) (h2:g≤val u / val v+1) :
  (b=0→g=val u / val v∧val p=val u % val v)∧(b≠0→g=val u / val v+1∧val (cdig 0 (sumW p v u.length))=val u % val v):=by
 obtain ⟨k1,k2⟩:=hsm.done (by omega);have hdm:=Nat.div_add_mod (val u) (val v);have hml:=Nat.mod_lt (val u) hV;have hup:=val_lt hu;have hvp:=val_lt hv;have hpp:=val_lt hsm.ws;rw [hsm.len] at hpp;have hq:g=val u / val v∨g=val u / val v+1:=by omega
 generalize val u / val v=q at *;generalize val u % val v=r at *;refine ⟨fun hb=>?_,fun hb=>?_⟩
 ·have e:=k1 hb;rcases hq with rfl|rfl
  ·rw [Nat.mul_comm (val v)] at hdm;exact ⟨rfl,by omega⟩
  ·rw [Nat.add_mul,Nat.mul_comm q] at e;omega
 ·have e:=k2 hb;rcases hq with rfl|rfl
  ·rw [Nat.mul_comm g] at e;omega
  ·refine ⟨rfl,?_⟩;have hs:=cdig_val 0 (sumW p v u.length);have hmx:u.length=max p.length v.length:=by rw [hsm.len];omega
   have hsl:(sumW p v u.length).length=u.length:=by simp [sumW]
   have hvs:val (sumW p v u.length)=val p+val v:=by rw [hmx];exact val_sumW p v
   have hlt:=val_lt (cdig_Ws 0 (sumW p v u.length));rw [cdig_len,hsl] at hlt;rw [hsl,hvs] at hs;have hvu:4294967296 ^ v.length≤4294967296 ^ u.length:=Nat.pow_le_pow_right (by decide) (by omega);rw [Nat.add_mul,Nat.mul_comm q] at e;generalize 4294967296 ^ u.length=P at *;generalize cout 0 (sumW p v u.length)=c' at *;generalize val (cdig 0 (sumW p v u.length))=x at *;have hc1:c'=1:=by
    rcases Nat.lt_trichotomy c' 1 with h|h|h
    ·have:c'=0:=by omega
     subst this;omega
    ·exact h
    ·have:P*2≤P*c':=Nat.mul_le_mul_left P (by omega);omega
   subst hc1;omega
def shr (u:List Nat) (s n:Nat):List Nat:=(List.range n).map fun i=>(u[i]?.getD 0+4294967296*u[i+1]?.getD 0) / 2 ^ s % 4294967296
theorem shr_val {s:Nat} (hs:s≤32):∀ (n:Nat) (u:List Nat),Ws u→val (shr u s n)=val u / 2 ^ s % 4294967296 ^ n
 | 0,u,_=>by simp [shr,val_nil,Nat.mod_one]
 | n+1,u,hu=>by
  have ih:=shr_val hs n (u.drop 1) (hu.drop 1);have e:shr u s (n+1)=((u[0]?.getD 0+4294967296*u[1]?.getD 0) / 2 ^ s % 4294967296) :: shr (u.drop 1) s n:=by
   unfold shr;rw [List.range_succ_eq_map,List.map_cons,List.map_map]
   congr 1
   refine List.map_congr_left fun i _=>?_;simp only [Function.comp,getD_drop];rw [show 1+i=i.succ by omega,show 1+(i+1)=i.succ+1 by omega]
  have e0:=val_drop_succ u 0;have e1:=val_drop_succ u 1;simp only [List.drop_zero,Nat.zero_add] at e0;rw [e,val_cons,ih];obtain ⟨m,hm⟩:∃ m,4294967296=2 ^ s*m:=by
   refine ⟨2 ^ (32-s),?_⟩;rw [← Nat.pow_add,show s+(32-s)=32 by omega]
  have h2:0<2 ^ s:=Nat.pow_pos (by decide);have k1:val u / 2 ^ s % 4294967296=(u[0]?.getD 0+4294967296*u[1]?.getD 0) / 2 ^ s % 4294967296:=by
   rw [e0,e1,Nat.mul_add,← Nat.add_assoc];generalize u[0]?.getD 0+4294967296*u[1]?.getD 0=x;generalize val (u.drop (1+1))=y;have:4294967296*(4294967296*y)=2 ^ s*(m*(4294967296*y)):=by rw [← Nat.mul_assoc (2 ^ s),← hm]
   rw [this,Nat.add_mul_div_left _ _ h2,← Nat.mul_assoc,Nat.mul_comm m,Nat.mul_assoc,Nat.add_mul_mod_self_left]
  have k2:val u / 2 ^ s / 4294967296=val (u.drop 1) / 2 ^ s:=by
   rw [Nat.div_div_eq_div_mul,Nat.mul_comm,← Nat.div_div_eq_div_mul]
   congr 1
   have:=hu.get 0;omega
  rw [Nat.pow_succ,Nat.mul_comm (4294967296 ^ n),Nat.mod_mul,k1,k2]
end Wd
end Go.Proofs.YtjajigkacccdgaaGreat
namespace Go.Proofs.YtjajigkacccdgaaGreat
open Go.RowKit
open Wd
def Rw (w:World) (b o n:Nat) (p:List Nat):Prop :=
 p.length=n∧Ws p∧b<w.heap.size∧(∀ j,j<n→w.cell? ⟨b,o+j,none⟩=some (.int .u32 ((p[j]?.getD 0:Nat):Int)))∧∀ j,j<n→w.frozen? ⟨b,o+j,none⟩=false
theorem Rw.wat {w:World} {b o n:Nat} {p:List Nat} (h:Rw w b o n p):Wat w (some ⟨b,o,none⟩) n p:=⟨h.1,h.2.1,fun _=>⟨b,o,rfl,h.2.2.1,h.2.2.2.1⟩⟩
theorem Rw.of {w:World} {base n:Nat} {A:Option Addr} {p:List Nat} (h:Wat w A n p) (hf:Fresh base w A n) (hn:n≠0):∃ b o,A=some ⟨b,o,none⟩∧base≤b∧Rw w b o n p:=by
 obtain ⟨b,o,rfl,h1,h2⟩:=h.2.2 hn;obtain ⟨b',o',e,h3,h4⟩:=hf hn;simp only [Option.some.injEq,Addr.mk.injEq] at e;obtain ⟨rfl,rfl,_⟩:=e;exact ⟨b,o,rfl,h3,h.1,h.2.1,h1,h2,h4⟩
theorem Rw.fresh {w:World} {base b o n:Nat} {p:List Nat} (h:Rw w b o n p) (hb:base≤b):Fresh base w (some ⟨b,o,none⟩) n:=fun _=>⟨b,o,rfl,hb,h.2.2.2.2⟩
theorem Rw.blk {w:World} {g:Nat} {t:TypeId} {p:List Nat} (h:Blk w g t (wcells p)) (hp:Ws p):Rw w g 0 p.length p :=
 ⟨rfl,hp,h.lt,fun j hj=>by rw [Nat.zero_add];exact h.word hj,fun j hj=>h.frozen _⟩
theorem Rw.set {w:World} {b o n:Nat} {p:List Nat} (h:Rw w b o n p) {i d:Nat} (hi:i<n) (hd:d<4294967296):Rw (w.setCell ⟨b,o+i,none⟩ (.int .u32 (d:Int))) b o n (p.set i d):=by
 obtain ⟨h1,h2,h3,h4,h5⟩:=h;refine ⟨by rw [List.length_set];exact h1,h2.set i hd,by rw [World.size_setCell];exact h3,fun j hj=>?_,fun j hj=>by rw [World.frozen?_setCell];exact h5 j hj⟩;by_cases e:i=j
 ·subst e;rw [World.cell?_setCell_same' w ⟨b,o+i,none⟩ _ (by rw [h4 i hi];rfl),List.getElem?_set_self (by omega)]
  rfl
 ·rw [List.getElem?_set_ne e,← h4 j hj];exact World.cell?_setCell_other _ _ _ _ (fun hh=>e (by have:=congrArg Addr.off hh;dsimp only at this;omega))
theorem Rw.heap {w w':World} {b o n:Nat} {p:List Nat} (h:Rw w b o n p) (hs:w.heap.size≤w'.heap.size) (hk:w'.heap[b]?=w.heap[b]?):Rw w' b o n p:=by
 obtain ⟨h1,h2,h3,h4,h5⟩:=h;refine ⟨h1,h2,Nat.lt_of_lt_of_le h3 hs,fun j hj=>?_,fun j hj=>?_⟩
 ·rw [World.cell?_of_block (a:=⟨b,o+j,none⟩) hk];exact h4 j hj
 ·rw [← h5 j hj];simp only [World.frozen?,hk]
theorem Rw.below {w w':World} {b o n B:Nat} {p:List Nat} (h:Rw w b o n p) (hb:Below B w w') (hB:b<B):Rw w' b o n p:=h.heap hb.size (hb.block b hB)
structure Bx (b:Nat) (w w':World):Prop where
 os:w'.os=w.os
 tape:w'.tape=w.tape
 output:w'.output=w.output
 size:w.heap.size≤w'.heap.size
 block:∀ k,k<w.heap.size→k≠b→w'.heap[k]?=w.heap[k]?
theorem Bx.refl (b:Nat) (w:World):Bx b w w:=⟨rfl,rfl,rfl,Nat.le_refl _,fun _ _ _=>rfl⟩
theorem Bx.trans {b:Nat} {u v w:World} (h:Bx b u v) (k:Bx b v w):Bx b u w:=⟨k.os.trans h.os,k.tape.trans h.tape,k.output.trans h.output,Nat.le_trans h.size k.size,fun j hj hne=>(k.block j (Nat.lt_of_lt_of_le hj h.size) hne).trans (h.block j hj hne)⟩
theorem Bx.of {b:Nat} {w w':World} (h:Below w.heap.size w w'):Bx b w w':=⟨h.os,h.tape,h.output,h.size,fun k hk _=>h.block k hk⟩
theorem Bx.set {b:Nat} {w w':World} (h:Bx b w w') (o:Nat) (v:Value):Bx b w (w'.setCell ⟨b,o,none⟩ v) :=
 h.trans ⟨rfl,rfl,rfl,by rw [World.size_setCell];exact Nat.le_refl _,fun k _ hne=>Below.heap_setCell _ ⟨b,o,none⟩ v k hne⟩
theorem Bx.drew {b:Nat} {w w':World} (h:Bx b w w'):Bx b w w'.drew:=⟨h.os,h.tape,h.output,h.size,h.block⟩
theorem Bx.below {b:Nat} {w0 w w':World} (h:Below w0.heap.size w0 w) (k:Bx b w w') (hb:w0.heap.size≤b):Below w0.heap.size w0 w':=⟨k.os.trans h.os,k.tape.trans h.tape,k.output.trans h.output,Nat.le_trans h.size k.size,fun j hj=>(k.block j (Nat.lt_of_lt_of_le hj h.size) (by omega)).trans (h.block j hj)⟩
theorem Bx.rw {b b' o n:Nat} {w w':World} {p:List Nat} (h:Bx b w w') (hr:Rw w b' o n p) (hne:b'≠b):Rw w' b' o n p:=hr.heap h.size (h.block b' hr.2.2.1 hne)
theorem or_words (r d:Nat) (hr:r<4294967296) (hd:d<4294967296):Go.bits .or .u64 ((r:Int)*4294967296) (d:Int)=((r*4294967296+d:Nat):Int):=by
 rw [show ((r:Int)*4294967296)=((r*4294967296:Nat):Int) by omega,u64_or_nat _ _ (by omega) (by omega),Nat.or_comm,or_shift _ _ hd hr];omega
theorem shortDiv_any (b o n c y:Nat) (l:List Nat) (w:World) (h:Rw w b o n l) (hn:n≤10000000000) (hy:0<y) (hy2:y<4294967296) :
  Calls Tryz.prog 218 #[.slice (some ⟨b,o,none⟩) n c,.int .u64 (y:Int)] w fun e w'=>∃ p,e=.returned (.int .u64 ((val l % y:Nat):Int))∧Rw w' b o n p∧val p=val l / y∧Bx b w w':=by
 have w0:IntKind.i64.wrap ((n:Int)-1)=(n:Int)-1:=IntWalk.i64_in _ (by omega);have hy0:((y:Int) == 0)=false:=by simp;omega
 have hy1:¬ y=0:=by omega
 have HL:=Hj h.1;have HW:=Hj h.2.1;have HS:=Hj (show SdInv l y n l 0∧Rw w b o n l∧Bx b w w from ⟨by have:=SdInv.start h.2.1 hy;rwa [h.1] at this,h,Bx.refl _ _⟩);have HY:=Hj hy;have HY2:=Hj hy2;clear h hy hy2;go_enter Tryz.func218,Tryz.ntmps218;go_wp2
 go_loopw [5,6] (fun t5 t6 wr=>∃ (k r:Nat) (i:Int) (p:List Nat),k≤n∧t6=.int .i64 i∧i=(k:Int)-1∧t5=.int .u64 (r:Int)∧Hid (SdInv l y k p r∧Rw wr b o n p∧Bx b w wr)) (fun _ t _=>(intOf t+1).toNat)
 case atStart=>exact ⟨n,0,_,l,Nat.le_refl _,rfl,rfl,rfl,HS.out⟩
 case round =>
  clear HS;obtain ⟨k,r,i,p,hk,rfl,hi,rfl,hR⟩:=hrel;obtain ⟨wu,rfl⟩:∃ v,v=wr:=⟨_,rfl⟩;cases k with
  | zero =>
   have hz:¬ (0:Int)≤i:=by omega
   obtain ⟨h1,h2,h3⟩:=hR.out;obtain ⟨h4,h5⟩:=h1.done;have HF:=Hj (And.intro h2 (And.intro h4 h3));have HE:=Hj h5;clear hR h1 h2 h3 h4 h5;go_wp2;go_ret;exact ⟨ret_int (by rw [HE.out];push_cast;rfl),p,HF.out⟩
  | succ k =>
   obtain rfl:i=(k:Int):=by omega
   obtain ⟨h1,h2,h3⟩:=hR.out;have hl:=HL.out;obtain ⟨s1,s2,s3⟩:=h1.step HW.out (show k<l.length by omega) HY2.out;have d0:=h2.2.2.2.1 k (by omega);have f0:=h2.2.2.2.2 k (by omega);rw [h1.low k (by omega)] at d0;have hdw:=HW.out.get k;have hr:=Nat.lt_trans h1.rest HY2.out;have hor:=or_words r (l[k]?.getD 0) hr hdw;have wr1:IntKind.u64.wrap ((r:Int)*4294967296)=(r:Int)*4294967296:=by rw [IntKind.wrap_u64];omega
   have wd:IntKind.u64.wrap ((l[k]?.getD 0:Nat):Int)=((l[k]?.getD 0:Nat):Int):=by rw [IntKind.wrap_u64];omega
   have hn2:=h2.set (i:=k) (by omega) s2;have HN:=Hj (And.intro s1 (And.intro hn2 (h3.set (o+k) (.int .u32 (((r*4294967296+l[k]?.getD 0) / y:Nat):Int)))));have HQ:=Hj (And.intro s2 s3);have i1:(0:Int)≤(k:Int):=by omega
   have i2:(k:Int)<(n:Int):=by omega
   have hx64:=s3;have q1:IntKind.u64.wrap (((r*4294967296+l[k]?.getD 0:Nat):Int).tdiv (y:Int))=(((r*4294967296+l[k]?.getD 0) / y:Nat):Int):=by
    have:=HY.out;rw [IntWalk.u64_quo _ _ ⟨by omega,by omega,by omega⟩];rfl
   have q2:(((r*4294967296+l[k]?.getD 0:Nat):Int).tmod (y:Int))=(((r*4294967296+l[k]?.getD 0) % y:Nat):Int):=by
    rw [IntWalk.rem_in _ _ (by omega)];rfl
   have q1':IntKind.u64.wrap (((r*4294967296+l[k]?.getD 0:Nat):Int) / (y:Int))=(((r*4294967296+l[k]?.getD 0) / y:Nat):Int):=by
    have e:(((r*4294967296+l[k]?.getD 0:Nat):Int) / (y:Int))=(((r*4294967296+l[k]?.getD 0) / y:Nat):Int):=rfl;have:=Nat.lt_of_le_of_lt (Nat.div_le_self (r*4294967296+l[k]?.getD 0) y) hx64;rw [e,IntKind.wrap_u64];generalize (r*4294967296+l[k]?.getD 0) / y=q at *;clear q1;omega
   have q2':(((r*4294967296+l[k]?.getD 0:Nat):Int) % (y:Int))=(((r*4294967296+l[k]?.getD 0) % y:Nat):Int):=rfl;generalize (r*4294967296+l[k]?.getD 0) / y=q at *;generalize (r*4294967296+l[k]?.getD 0) % y=m at *;have q3:(q:Int) % 4294967296=(q:Int):=by omega
   have wk:IntKind.i64.wrap ((k:Int)-1)=(k:Int)-1:=IntWalk.i64_in _ (by omega);generalize r*4294967296+l[k]?.getD 0=x at *;generalize l[k]?.getD 0=d at *;clear s1 s2 s3 hn2 h1 h2 h3 hR hdw hl hr hx64;clear hi;go_wp2;go_roundw
   case rel=>exact ⟨k,m,_,_,by omega,rfl,rfl,rfl,HN.out⟩
   case measure=>simp [intOf]
def shs (l:List Nat) (s k:Nat):List Nat:=(l.take k).map fun x=>x*2 ^ s
theorem shs_len {l:List Nat} {s k:Nat} (h:k≤l.length):(shs l s k).length=k:=by simp [shs,h]
theorem shs_succ {l:List Nat} {s k:Nat} (h:k<l.length):shs l s (k+1)=shs l s k ++ [l[k]?.getD 0*2 ^ s]:=by
 unfold shs;rw [List.take_succ_eq_append_getElem h,List.map_append,List.getElem?_eq_getElem h]
 rfl
theorem sh_bd {x s:Nat} (hx:x<4294967296) (hs:s<32):x*2 ^ s≤9223372034707292160:=by
 have h1:2 ^ s≤2 ^ 31:=Nat.pow_le_pow_right (by decide) (by omega);have:x*2 ^ s≤4294967295*2 ^ 31:=Nat.mul_le_mul (by omega) h1;omega
theorem shs_carry {l:List Nat} {s k:Nat} (h:Ws l) (hs:s<32):cout 0 (shs l s k)<4294967296:=by
 refine cout_lt (by decide) (by decide) fun t ht=>?_;obtain ⟨x,hx,rfl⟩:=List.mem_map.1 ht;have:=sh_bd (h x (List.mem_of_mem_take hx)) hs;omega
theorem shs_val {l:List Nat} {s:Nat} (h:Ws l) (hs:s<32):val (cdig 0 (shs l s l.length ++ [0]))=val l*2 ^ s:=by
 have h1:=cdig_val 0 (shs l s l.length ++ [0]);have h2:=shs_carry (k:=l.length) h hs;rw [cout_snoc,Nat.zero_add,Nat.div_eq_of_lt h2,Nat.mul_zero,Nat.add_zero,Nat.zero_add] at h1;rw [h1,val_append];simp only [val_cons,val_nil,Nat.mul_zero,Nat.add_zero];unfold shs;rw [List.take_length];have:=val_map_mul (fun x:Nat=>x) (2 ^ s) l;rw [List.map_id'] at this;exact this
def ShL (w:World) (n s k:Nat) (l:List Nat) (wr:World):Prop :=
 Blk wr (w.heap.size+1) 59 (rowC (n+1) (cdig 0 (shs l s k)))∧Blk wr w.heap.size 164 #[.int .u64 ((cout 0 (shs l s k):Nat):Int)]∧Below w.heap.size w wr
theorem ShL.step {w wr:World} {n k d c':Nat} {ds:List Nat} {cc:Nat} (hB:Blk wr (w.heap.size+1) 59 (rowC (n+1) ds)) (hC:Blk wr w.heap.size 164 #[.int .u64 (cc:Int)]) (hW:Below w.heap.size w wr) (hd:ds.length=k) (hk:k+1≤n+1) (o:Obj) :
  Blk (((wr.setCell ⟨w.heap.size,0,none⟩ (.int .u64 (c':Int))).alloc o).setCell ⟨w.heap.size+1,k,none⟩ (.int .u32 (d:Int))) (w.heap.size+1) 59 (rowC (n+1) (ds ++ [d]))∧Blk (((wr.setCell ⟨w.heap.size,0,none⟩ (.int .u64 (c':Int))).alloc o).setCell ⟨w.heap.size+1,k,none⟩ (.int .u32 (d:Int))) w.heap.size 164 #[.int .u64 (c':Int)] ∧
   Below w.heap.size w (((wr.setCell ⟨w.heap.size,0,none⟩ (.int .u64 (c':Int))).alloc o).setCell ⟨w.heap.size+1,k,none⟩ (.int .u32 (d:Int))) ∧
   ((wr.setCell ⟨w.heap.size,0,none⟩ (.int .u64 (c':Int))).alloc o).cell? ⟨w.heap.size+1,k,none⟩=some (.int .u32 0)∧((wr.setCell ⟨w.heap.size,0,none⟩ (.int .u64 (c':Int))).alloc o).frozen? ⟨w.heap.size+1,k,none⟩=false:=by
 have x0:=(Blk.far hB (p:=⟨w.heap.size,0,none⟩) (by simp) (.int .u64 (c':Int))).alloc o;have x1:=(Blk.set hC 0 (.int .u64 (c':Int))).alloc o;have y0:=x0.set k (.int .u32 (d:Int));rw [rowC_set hd hk] at y0;refine ⟨y0,Blk.far x1 (p:=⟨w.heap.size+1,k,none⟩) (by simp) _,Below.setCell (Below.alloc (Below.setCell hW (p:=⟨w.heap.size,0,none⟩) (Nat.le_refl _) _) (by rw [World.size_setCell];exact hW.size) o) (p:=⟨w.heap.size+1,k,none⟩) (by simp) _,rowC_next x0 hd hk,x0.frozen k⟩
theorem shiftLeft_any (A:Option Addr) (n c s:Nat) (l:List Nat) (w:World) (h:Wat w A n l) (hn:n≤10000000000) (hs:s<32) :
  Calls Tryz.prog 223 #[.slice A n c,.int .u64 (s:Int)] w fun e w'=>∃ g p,e=.returned (.slice (some ⟨g,0,none⟩) (n+1) (n+1))∧w.heap.size≤g∧Blk w' g 59 (wcells p)∧p.length=n+1∧Ws p∧val p=val l*2 ^ s∧Below w.heap.size w w':=by
 obtain ⟨i0,hi,hz0,hz1,hz2⟩:=info_parts info_u32;have hmk:=fun w=>run_make (P:=Tryz.prog) w 38 59 i0 _ Tryz.underlying38 hi hz0 .i64 .i64 0 ((n:Int)+1) (by omega) (by omega) (by rw [hz2];omega) (by omega);have HH:=Hj h;have HS:=Hj hs;have wn:IntKind.i64.wrap ((n:Int)+1)=(n:Int)+1:=IntWalk.i64_in _ (by omega);clear h hs;go_enter Tryz.func223,Tryz.ntmps223
 go_wp2_with fail
 refine (carrier_any 0 w).mono ?_;rintro e w1 ⟨rfl,rfl⟩
 go_wp2_with fail
 rw [rowC_start];have HST:=Hj (show ShL w n s 0 l ((w.alloc (.cells #[.int .u64 0] 164)).alloc (.cells (rowC (n+1) []) 59)) from
  ⟨Blk.new1 w _ _ _,(Blk.new w _ _).alloc _,((Below.refl _ w).alloc (Nat.le_refl _) _).alloc (by simp) _⟩)
 clear hmk hi hz0 hz1 hz2
 go_loopw [6,16] (fun t6 t wr=>∃ k:Nat,k≤n∧t=.int .i64 k∧t6=.slice (some ⟨w.heap.size+1,0,none⟩) k (n+1)∧Hid (ShL w n s k l wr)) (fun _ t _=>n-(intOf t).toNat)
 case atStart=>exact ⟨0,Nat.zero_le _,rfl,rfl,HST.out⟩
 case round =>
  clear HST;obtain ⟨k,hk,rfl,rfl,hR⟩:=hrel;obtain ⟨wu,rfl⟩:∃ v,v=wr:=⟨_,rfl⟩;have hln:=HH.out.1;have hws:=HH.out.2.1;obtain ⟨q0,q1,q2⟩:=hR.out;have hcar:=shs_carry (k:=k) hws HS.out;by_cases hlt:k<n
  ·obtain ⟨b,o,rfl,hb,hc⟩:=HH.out.2.2 (by omega);have d0:=(q2.cell (p:=⟨b,o+k,none⟩) hb).trans (hc k hlt);have hx:=hws.get k;have hbd:=sh_bd hx HS.out;have hdl:(cdig 0 (shs l s k)).length=k:=by rw [cdig_len,shs_len (by omega)]
   have HNX:=Hj (fun W (hW:Blk W w.heap.size 164 #[.int .u64 ((cout 0 (shs l s k):Nat):Int)])=>next_nat w.heap.size (l[k]?.getD 0*2 ^ s) (cout 0 (shs l s k)) (((l[k]?.getD 0:Nat):Int)*2 ^ s) (by push_cast;rfl) W hW (by omega));have hst:=ShL.step (c':=(l[k]?.getD 0*2 ^ s+cout 0 (shs l s k)) / 4294967296) (d:=(l[k]?.getD 0*2 ^ s+cout 0 (shs l s k)) % 4294967296) q0 q1 q2 hdl (by omega) (.cells #[.int .u32 (((l[k]?.getD 0*2 ^ s+cout 0 (shs l s k)) % 4294967296:Nat):Int)] 59);obtain ⟨z0,z1,z2,z3,z4⟩:=hst;have hN:ShL w n s (k+1) l _:=⟨by rw [shs_succ (by omega),cdig_snoc];exact z0,by rw [shs_succ (by omega),cout_snoc];exact z1,z2⟩;have HN:=Hj hN;have e0:((l[k]?.getD 0:Nat):Int)*2 ^ s=((l[k]?.getD 0*2 ^ s:Nat):Int):=by push_cast;rfl
   have wx:IntKind.u64.wrap (((l[k]?.getD 0:Nat):Int)*2 ^ s)=((l[k]?.getD 0:Nat):Int)*2 ^ s:=by rw [e0,IntKind.wrap_u64];omega
   have wd:IntKind.u64.wrap ((l[k]?.getD 0:Nat):Int)=((l[k]?.getD 0:Nat):Int):=by rw [IntKind.wrap_u64];omega
   have hmn:min s 64=s:=by have:=HS.out;omega
   have Q1:=Hj q1;generalize (l[k]?.getD 0*2 ^ s+cout 0 (shs l s k)) / 4294967296=c' at *;generalize (l[k]?.getD 0*2 ^ s+cout 0 (shs l s k)) % 4294967296=d at *;generalize cout 0 (shs l s k)=cc at *;generalize l[k]?.getD 0=x at *;have i1:(0:Int)≤(k:Int):=by omega
   have i2:(k:Int)<(n:Int):=by omega
   clear q0 q1 q2 z0 z1 z2 hN hR hc hb hcar hbd hdl e0 hln hws hx
   go_wp2_with fail
   refine (HNX.out _ Q1.out).mono ?_;rintro e w3 ⟨rfl,rfl⟩;clear HNX;go_wp2;go_roundw
   case rel=>exact ⟨k+1,by omega,by go_num,rfl,HN.out⟩
   case measure=>simp [intOf];omega
  ·obtain rfl:n=k:=by omega
   have hdl:(cdig 0 (shs l s n)).length=n:=by rw [cdig_len,shs_len (by omega)]
   have HNX:=Hj (fun W (hW:Blk W w.heap.size 164 #[.int .u64 ((cout 0 (shs l s n):Nat):Int)])=>next_nat w.heap.size 0 (cout 0 (shs l s n)) 0 rfl W hW (by omega));have hst:=ShL.step (c':=(0+cout 0 (shs l s n)) / 4294967296) (d:=(0+cout 0 (shs l s n)) % 4294967296) q0 q1 q2 hdl (by omega) (.cells #[.int .u32 (((0+cout 0 (shs l s n)) % 4294967296:Nat):Int)] 59);obtain ⟨z0,z1,z2,z3,z4⟩:=hst;have hv:=shs_val hws HS.out;rw [hln,cdig_snoc] at hv;have hwsr:Ws (cdig 0 (shs l s n) ++ [(0+cout 0 (shs l s n)) % 4294967296]):=by rw [← cdig_snoc];exact cdig_Ws _ _
   have hlen:(cdig 0 (shs l s n) ++ [(0+cout 0 (shs l s n)) % 4294967296]).length=n+1:=by simp [hdl]
   have er:rowC (n+1) (cdig 0 (shs l s n) ++ [(0+cout 0 (shs l s n)) % 4294967296])=wcells (cdig 0 (shs l s n) ++ [(0+cout 0 (shs l s n)) % 4294967296]):=by
    unfold rowC wcells;rw [hlen,Nat.sub_self];simp
   rw [er] at z0;have HF:=Hj (And.intro z0 (And.intro hlen (And.intro hwsr (And.intro hv z2))));have Q1:=Hj q1;generalize (0+cout 0 (shs l s n)) / 4294967296=c' at *;generalize cdig 0 (shs l s n) ++ [(0+cout 0 (shs l s n)) % 4294967296]=pp at *;generalize (0+cout 0 (shs l s n)) % 4294967296=d at *;generalize cout 0 (shs l s n)=cc at *;clear q0 q1 q2 z0 z1 z2 hR hcar hdl hln hws hv hwsr hlen er
   go_wp2_with fail
   refine (HNX.out _ Q1.out).mono ?_;rintro e w3 ⟨rfl,rfl⟩;clear HNX;go_wp2;go_ret;exact ⟨w.heap.size+1,pp,rfl,by omega,HF.out⟩
def EsI (f s t x Q g r:Nat):Prop:=Q≤g∧g*f+r=t∧g≤4294967297∧r<4294967296
theorem EsI.more {f s t x Q g r:Nat} (h:EsI f s t x Q g r) (hQ:Q<g):Q≤g-1∧(g-1)*f+(r+f)=t∧g-1≤4294967296∧0<g:=by
 obtain ⟨h1,h2,h3,h4⟩:=h;obtain ⟨g',rfl⟩:∃ g',g=g'+1:=⟨g-1,by omega⟩;rw [Nat.add_mul,Nat.one_mul] at h2;refine ⟨by omega,?_,by omega,by omega⟩;rw [Nat.add_sub_cancel];omega
structure EsF (f s t x P ul vl U V:Nat):Prop where
 hV:V=(f*4294967296+s)*P+vl
 hU:U=(t*4294967296+x)*P+ul
 hul:ul<P
 hvl:vl<P
 hx:x<4294967296
 hs:s<4294967296
 hf:4294967296≤2*f
 hlt:U<4294967296*V
theorem EsF.pos {f s t x P ul vl U V:Nat} (h:EsF f s t x P ul vl U V):0<V:=by
 have h1:=h.hV;have h2:=h.hvl;have h3:=h.hf;have:1*P≤(f*4294967296+s)*P:=Nat.mul_le_mul_right P (by omega);omega
theorem EsF.start {f s t x P ul vl U V:Nat} (h:EsF f s t x P ul vl U V) (hfB:f<4294967296):EsI f s t x (U / V) (t / f) (t % f):=by
 obtain ⟨h1,h2⟩:=est_first h.hV h.hU h.hul h.hvl h.hx h.hs h.hf h.hlt;have h3:=Nat.div_add_mod t f;have h4:=Nat.mod_lt t (show 0<f by have:=h.hf;omega);refine ⟨h1,?_,h2,by omega⟩;rw [Nat.mul_comm];exact h3
theorem EsF.big {f s t x P ul vl U V g:Nat} (h:EsF f s t x P ul vl U V) (hg:4294967296≤g):U / V<g:=by
 have:U / V<4294967296:=by rw [Nat.div_lt_iff_lt_mul h.pos];exact h.hlt
 omega
theorem EsF.over {f s t x P ul vl U V g r:Nat} (h:EsF f s t x P ul vl U V) (hi:EsI f s t x (U / V) g r) (hg:r*4294967296+x<g*s):U / V<g:=by
 refine est_over h.hV h.hU h.hul h.pos ?_;obtain ⟨_,h2,_,_⟩:=hi;rw [← h2,Nat.add_mul,Nat.mul_add,Nat.mul_assoc];omega
theorem EsF.done {f s t x P ul vl U V g r:Nat} (h:EsF f s t x P ul vl U V) (h2:g*f+r=t) (hg:g*s≤r*4294967296+x) (hB:g≤4294967296):g≤U / V+1:=by
 refine est_done h.hV h.hU h.hvl (by have:=h.hf;omega) ?_ hB;rw [← h2,Nat.add_mul,Nat.mul_add,Nat.mul_assoc];omega
theorem EsF.brk {f s t x P ul vl U V g r:Nat} (h:EsF f s t x P ul vl U V) (h2:g*f+r=t) (hr:4294967296≤r) (hB:g≤4294967296):g≤U / V+1:=by
 refine h.done h2 ?_ hB;have h3:g*s≤4294967296*4294967295:=Nat.mul_le_mul hB (by have:=h.hs;omega);have h4:4294967296*4294967296≤r*4294967296:=Nat.mul_le_mul_right _ hr;omega
theorem esF_of {u v:List Nat} {m:Nat} (hu:Ws u) (hv:Ws v) (hul:u.length=m+3) (hvl:v.length=m+2) (hf:2147483648≤v[m+1]?.getD 0) (hlt:val u<4294967296*val v) :
  EsF (v[m+1]?.getD 0) (v[m]?.getD 0) (u[m+2]?.getD 0*4294967296+u[m+1]?.getD 0) (u[m]?.getD 0) (4294967296 ^ m) (val (u.take m)) (val (v.take m)) (val u) (val v):=by
 have e1:=val_take_succ u m;have e2:=val_take_succ u (m+1);have e3:=val_take_succ u (m+2);have f1:=val_take_succ v m;have f2:=val_take_succ v (m+1);rw [List.take_of_length_le (show u.length≤m+2+1 by omega)] at e3;rw [List.take_of_length_le (show v.length≤m+1+1 by omega)] at f2;have hP:=Nat.pow_succ 4294967296 m;have hP2:=Nat.pow_succ 4294967296 (m+1);have l1:=val_lt (hu.take m);have l2:=val_lt (hv.take m);rw [List.length_take,Nat.min_eq_left (by omega)] at l1 l2;refine ⟨?_,?_,l1,l2,hu.get m,hv.get m,by omega,hlt⟩
 ·rw [f2,f1,hP,Nat.add_mul,Nat.mul_comm (v[m]?.getD 0),Nat.mul_assoc (4294967296 ^ m),Nat.mul_comm (4294967296 ^ m) (4294967296*v[m+1]?.getD 0),Nat.mul_comm 4294967296 (v[m+1]?.getD 0)];omega
 ·rw [e3,e2,e1,hP2,hP];generalize 4294967296 ^ m=P;generalize u[m+2]?.getD 0=a;generalize u[m+1]?.getD 0=b;generalize u[m]?.getD 0=c;have k1:P*4294967296*4294967296*a=a*4294967296*4294967296*P:=by rw [Nat.mul_comm,← Nat.mul_assoc,← Nat.mul_assoc,Nat.mul_comm (a*P),Nat.mul_comm a P,Nat.mul_comm _ 4294967296,Nat.mul_comm a];simp only [Nat.mul_assoc,Nat.mul_comm,Nat.mul_left_comm]
  have k2:P*4294967296*b=b*4294967296*P:=by simp only [Nat.mul_assoc,Nat.mul_comm,Nat.mul_left_comm]
  have k3:P*c=c*P:=Nat.mul_comm _ _;rw [Nat.add_mul,Nat.add_mul,Nat.add_mul,k1,k2,k3];omega
end Go.Proofs.YtjajigkacccdgaaGreat
