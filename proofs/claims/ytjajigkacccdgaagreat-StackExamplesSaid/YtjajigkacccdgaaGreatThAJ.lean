/-
Lemmas of the walk; no further conditions.
-/
import Derived.RangeFuncBox
import Derived.RangeFuncNested
import Derived.RangeFuncLeaves
import Derived.TacticsInMore
import Derived.OrdersIn
import Derived.OrdersHeld
import Derived.Deep.RegionHeld3
import Derived.Test.YtjajigkacccdgaaGreatThAI
import Derived.Laws.EntriesVeiled
set_option linter.unusedVariables false
set_option linter.unusedSimpArgs false
set_option maxRecDepth 100000
set_option maxHeartbeats 16000000
namespace Go.Proofs.YtjajigkacccdgaaGreat
open Go
theorem rowsIn_of {r n:Nat} {P:Program} {row:String} {args:Array Value} {w:World} {R:Value→World→Prop} (h:Rows P row args w R):RowsIn (Fence.wide.inRound r) n P row args w R :=
 fun c cs _=>let ⟨v,w',q,s⟩:=h c cs;⟨v,w',q,stepsIn_wide.2 s⟩
theorem wpOpIn_of_wpOp {r n:Nat} {P:Program} {ops:Array Oper} {Q:Exit→Act→World→Prop} {i:Nat} {K:Act→World→Prop} {a:Act} {w:World} (hnd:∀ (j:Nat) (o:Oper),ops[j]?=some o→∀ c,o.op≠.defer c) (hQ:¬ LetsOut Q) (h:wpOp P ops Q i K a w) :
  wpOpIn (Fence.wide.inRound r) n P ops Q i K a w:=by
 unfold wpOp at h;unfold wpOpIn;cases ho:ops[i]? with
 | none=>rw [ho] at h;exact h
 | some o =>
  rw [ho] at h;simp only at h ⊢;split
  ·rename_i hw
   rw [if_pos hw] at h;rcases h with h|⟨_,hl⟩
   ·unfold Oper.wp at h;unfold Oper.wpIn;refine ⟨fun _ _=>trivial,?_⟩;rw [Fence.inRound_round,Oper.semAt_some _ _ _ (hnd i o ho)];generalize (execOp a.eval o).run P w=res at *;cases res with
    | ok x w' =>
     cases x<;>simp only [Oper.upon,Oper.uponIn] at h ⊢<;>first
      | exact h
      | exact ⟨fun hh=>by simp [Fence.inRound,Fence.wide] at hh,CallsIn.inRound r (callsIn_wide.2 h)⟩
      | exact ⟨fun hh=>by simp [Fence.inRound,Fence.wide] at hh,rowsIn_of h⟩
      | exact h.elim
    | halt x w'=>cases x<;>simp only [Oper.upon,Oper.uponIn] at h ⊢<;>exact h
   ·exact absurd hl hQ
  ·rename_i hw
   rw [if_neg hw] at h;exact ⟨fun _ _=>trivial,h⟩
theorem wpAnyIn_of_wpAny {r n:Nat} {P:Program} {md:Region.Mode} {ops:Array Oper} {Q:Exit→Act→World→Prop} (hnd:∀ (j:Nat) (o:Oper),ops[j]?=some o→∀ c,o.op≠.defer c) (hQ:¬ LetsOut Q):∀ (fuel:Nat) (listed:Array Bool) (a:Act) (w:World),
  wpAny P md ops Q fuel listed a w→wpAnyIn (Fence.wide.inRound r) n P md ops Q fuel listed a w
 | 0,_,_,_,h=>h
 | fuel+1,_,_,_,h=>⟨h.1,fun i hi=>wpOpIn_mono (fun a' w' h'=>wpAnyIn_of_wpAny hnd hQ fuel _ a' w' h') (wpOpIn_of_wpOp hnd hQ (h.2 i hi))⟩
def OnlyN (Q:Exit→Act→World→Prop):Exit→Act→World→Prop
 | .normal,a,w=>Q .normal a w
 | _,_,_=>False
theorem OnlyN.imp {Q:Exit→Act→World→Prop}:∀ (e:Exit) (a:Act) (w:World),OnlyN Q e a w→Q e a w:=fun e a w h=>by
 cases e<;>first|exact h|exact (h:False).elim
theorem OnlyN.noOut {Q:Exit→Act→World→Prop}:¬ LetsOut (OnlyN Q):=fun ⟨_,_,h⟩=>h
def noDefer (ops:Array Oper):Bool:=ops.all fun o=>match o.op with | .defer _=>false|_=>true
theorem noDefer_spec {ops:Array Oper} (h:noDefer ops=true):∀ (j:Nat) (o:Oper),ops[j]?=some o→∀ c,o.op≠.defer c:=by
 intro j o ho c hc;obtain ⟨hj,rfl⟩:=Array.getElem?_eq_some_iff.1 ho;have:=(Array.all_eq_true.1 h) j hj;rw [hc] at this;simp at this
theorem wpIn_round_held {r n:Nat} {P:Program} {ops:Array Oper} {Q:Exit→Act→World→Prop} {S:World→Prop} {id:Nat} {a:Act} {w:World} (hm:P.follows .mixedOrders=true) (hnd:noDefer ops=true) (hS:S w.drew)
  (h:S w.drew→wpAnyH P .any ops (OnlyN Q) S ops.size (Array.replicate ops.size false) a w.drew):(Code.region id ops true).wpIn (Fence.wide.inRound r) n P Q a w :=
 Code.wpIn_mono OnlyN.imp (wpIn_region_any hm (wpAnyIn_of_wpAny (noDefer_spec hnd) OnlyN.noOut _ _ _ _ (wpAny_of_held _ _ _ _ (h hS))))
theorem rowsIn_of' {n:Nat} {P:Program} {row:String} {args:Array Value} {w:World} {R:Value→World→Prop} (h:Rows P row args w R):RowsIn Fence.wide n P row args w R :=
 fun c cs _=>let ⟨v,w',q,s⟩:=h c cs;⟨v,w',q,stepsIn_wide.2 s⟩
theorem wpOpIn_of_wpOp' {n:Nat} {P:Program} {ops:Array Oper} {Q:Exit→Act→World→Prop} {i:Nat} {K:Act→World→Prop} {a:Act} {w:World} (hQ:¬ LetsOut Q) (h:wpOp P ops Q i K a w) :
  wpOpIn Fence.wide n P ops Q i K a w:=by
 unfold wpOp at h;unfold wpOpIn;cases ho:ops[i]? with
 | none=>rw [ho] at h;exact h
 | some o =>
  rw [ho] at h;simp only at h ⊢;split
  ·rename_i hw
   rw [if_pos hw] at h;rcases h with h|⟨_,hl⟩
   ·unfold Oper.wp at h;unfold Oper.wpIn;refine ⟨fun _ _=>trivial,?_⟩;rw [show Fence.wide.round=none from rfl,Oper.semAt_none];generalize (execOp a.eval o).run P w=res at *;cases res with
    | ok x w' =>
     cases x<;>simp only [Oper.upon,Oper.uponIn] at h ⊢<;>first
      | exact h
      | exact ⟨fun hh=>by simp [Fence.wide] at hh,callsIn_wide.2 h⟩
      | exact ⟨fun hh=>by simp [Fence.wide] at hh,rowsIn_of' h⟩
      | exact h.elim
    | halt x w'=>cases x<;>simp only [Oper.upon,Oper.uponIn] at h ⊢<;>exact h
   ·exact absurd hl hQ
  ·rename_i hw
   rw [if_neg hw] at h;exact ⟨fun _ _=>trivial,h⟩
theorem wpAnyIn_of_wpAny' {n:Nat} {P:Program} {md:Region.Mode} {ops:Array Oper} {Q:Exit→Act→World→Prop} (hQ:¬ LetsOut Q):∀ (fuel:Nat) (listed:Array Bool) (a:Act) (w:World),
  wpAny P md ops Q fuel listed a w→wpAnyIn Fence.wide n P md ops Q fuel listed a w
 | 0,_,_,_,h=>h
 | fuel+1,_,_,_,h=>⟨h.1,fun i hi=>wpOpIn_mono (fun a' w' h'=>wpAnyIn_of_wpAny' hQ fuel _ a' w' h') (wpOpIn_of_wpOp' hQ (h.2 i hi))⟩
theorem wpIn_wide_held {n:Nat} {P:Program} {ops:Array Oper} {Q:Exit→Act→World→Prop} {S:World→Prop} {id:Nat} {a:Act} {w:World} (hm:P.follows .mixedOrders=true) (hS:S w.drew)
  (h:S w.drew→wpAnyH P .any ops (OnlyN Q) S ops.size (Array.replicate ops.size false) a w.drew):(Code.region id ops true).wpIn Fence.wide n P Q a w :=
 Code.wpIn_mono OnlyN.imp (wpIn_region_any hm (wpAnyIn_of_wpAny' OnlyN.noOut _ _ _ _ (wpAny_of_held _ _ _ _ (h hS))))
end Go.Proofs.YtjajigkacccdgaaGreat
namespace Go.Proofs.YtjajigkacccdgaaGreat
open Go.RowKit Go.Shelf
open Wd
attribute [local go_sem] Oper.semAt_some
def rowC (cap:Nat) (ds:List Nat):Array Value:=(u32s (ds ++ List.replicate (cap-ds.length) 0)).toArray
theorem rowC_start (cap:Nat):madeCells #[.int .u32 0] cap=rowC cap []:=by
 rw [wcells_zero];simp [wcells,rowC]
theorem rowC_next {w:World} {g cap k:Nat} {ds:List Nat} (h:Blk w g 59 (rowC cap ds)) (hd:ds.length=k) (hk:k+1≤cap):w.cell? ⟨g,k,none⟩=some (.int .u32 0):=by
 rw [h.cell k];subst hd;simp [rowC,u32s,show 0<cap-ds.length by omega]
theorem rowC_set {cap k d:Nat} {ds:List Nat} (hd:ds.length=k) (hk:k+1≤cap):(rowC cap ds).setIfInBounds k (.int .u32 (d:Int))=rowC cap (ds ++ [d]):=by
 subst hd;unfold rowC u32s;have e:cap-ds.length=(cap-(ds ++ [d]).length)+1:=by simp;omega
 rw [e,List.replicate_succ];simp
theorem blk_own {β:Type} (B:Nat) (t:TypeId) (f:β→Array Value):Go.Own (fun s W=>Blk W B t (f s)):=fun s X Y row hs hg hrow =>
 (hg.block B (Blk.lt hs) (fun e'=>by obtain ⟨o,ho,hc⟩:=hrow B e'.symm;rw [show X.heap[B]?=_ from hs] at ho;cases ho;cases hc)).trans hs
theorem pairs_in (n:Nat) (A A':Option Addr) (la lb ca cb:Nat) (w:World) :
  CallsIn Fence.wide n Tryz.prog 220 #[.slice A la ca,.slice A' lb cb] w fun e w'=>e=.returned (.func (.func 226) #[] #[.pointer (some ⟨w.heap.size,0,none⟩),.pointer (some ⟨w.heap.size+1,0,none⟩)])∧w'=(w.alloc (.cells #[.slice A la ca] 38)).alloc (.cells #[.slice A' lb cb] 38):=by
 have hmf:∀ (fn:Fn) (first cap:Array Value) (w:World),(Instr.makeFunc fn first cap).run Tryz.prog w=.ok (.func fn first cap) w:=fun _ _ _ _=>rfl;refine callsIn_of_wp Tryz.func220 rfl trivial ?_ rfl;simp only [Tryz.ntmps220,List.size_toArray,List.length_cons,List.length_nil,Nat.reduceAdd,Nat.reduceSub,Array.replicate_succ,Array.replicate_zero,List.push_toArray,List.append_toArray,List.nil_append,List.cons_append]
 gi_wp2
 go_ret;exact ⟨rfl,rfl⟩
theorem pairs_stops (n:Nat) (hn:1≤n) (Ba Bb n₀:Nat) (A A':Option Addr) (la lb ca cb:Nat) (l l':List Nat) (h:Ws l) (h':Ws l') (hla:la≤10000000000) (hlb:lb≤10000000000) (w:World) (hBa:w.cell? ⟨Ba,0,none⟩=some (.slice A la ca)) (hBb:w.cell? ⟨Bb,0,none⟩=some (.slice A' lb cb)) (hba:Ba<w.heap.size) (hbb:Bb<w.heap.size) (hn₀:n₀≤w.heap.size) (ha:WatB n₀ w A la l) (hb:WatB n₀ w A' lb l') :
  SeqStopsK Fence.wide n Tryz.prog 226 #[.pointer (some ⟨Ba,0,none⟩),.pointer (some ⟨Bb,0,none⟩)] PW.enc (KpB n₀ Ba Bb) (fun ys=>ys=pws l l' h h' (max la lb)) (fun pre=>∃ k,k≤max la lb∧pre=pws l l' h h' k) (max la lb) w:=fun r J Jx W hW _ _ hY h0 =>
 pairs1_in n hn r Ba Bb n₀ A A' la lb ca cb l l' h h' J Jx hla hlb hY W ((hW.cell (p:=⟨Ba,0,none⟩) hba).trans hBa) ((hW.cell (p:=⟨Bb,0,none⟩) hbb).trans hBb) (ha.below (hW.mono hn₀)) (hb.below (hW.mono hn₀)) h0
theorem next_nat (g x c:Nat) (y:Int) (hy:y=(x:Int)) (w:World) (hg:Blk w g 164 #[.int .u64 (c:Int)]) (hx:x+c<18446744073709551616) :
  Calls Tryz.prog 217 #[.int .u64 y,.pointer (some ⟨g,0,none⟩)] w fun e w'=>e=.returned (.int .u32 (((x+c) % 4294967296:Nat):Int))∧w.setCell ⟨g,0,none⟩ (.int .u64 (((x+c) / 4294967296:Nat):Int))=w':=by
 subst hy;have h:=next_any g (x:Int) (c:Int) w hg (by omega) (by omega) (by omega);rw [show ((x:Int)+(c:Int)) % 4294967296=(((x+c) % 4294967296:Nat):Int) by omega,show ((x:Int)+(c:Int)) / 4294967296=(((x+c) / 4294967296:Nat):Int) by omega] at h;exact h
def sumsP (pre:List PW):List Nat:=pre.map fun x=>x.1.1+x.1.2
theorem sumsP_snoc (pre:List PW) (x:PW):sumsP (pre ++ [x])=sumsP pre ++ [x.1.1+x.1.2]:=by simp [sumsP]
theorem sumsP_all (l l':List Nat) (h:Ws l) (h':Ws l') (m:Nat):sumsP (pws l l' h h' m)=sumW l l' m:=by
 unfold sumsP pws sumW;rw [List.map_map]
 rfl
theorem sumsP_carry (pre:List PW):cout 0 (sumsP pre)<2:=by
 refine cout_lt (by decide) (by decide) fun t ht=>?_;obtain ⟨x,_,rfl⟩:=List.mem_map.1 ht;have:=x.2;omega
def RdI (w0:World) (g cap:Nat) (FV AA BB:Value) (ds:List Nat) (k c:Nat) (W:World):Prop :=
 (Blk W g 59 (rowC cap ds)∧Blk W (g+1) 38 #[.slice (some ⟨g,0,none⟩) k cap]∧Blk W (g+1+1) 164 #[.int .u64 (c:Int)]∧Blk W (g+1+1+1) 203 #[FV]∧Blk W (g+1+1+1+1) 38 #[AA]∧Blk W (g+1+1+1+1+1) 38 #[BB])∧Below g w0 W
theorem KeepsFrom.set' {B:Nat} (W:World) {p:Addr} (v:Value) (hp:p.block<B):KeepsFrom B W (W.setCell p v) :=
 ⟨by rw [World.size_setCell];exact Nat.le_refl _,fun k o hB hk _=>(Below.heap_setCell W p v k (by omega)).trans hk⟩
theorem KeepsFrom.alloc' {B:Nat} (W:World) (o:Obj):KeepsFrom B W (W.alloc o) :=
 ⟨by simp,fun k o' hB hk _=>(Below.heap_alloc W o k (Array.getElem?_eq_some_iff.1 hk).1).trans hk⟩
theorem KeepsFrom.drew' {B:Nat} (W:World):KeepsFrom B W W.drew:=⟨Nat.le_refl _,fun k o hB hk _=>hk⟩
theorem RdI.step {w0 W:World} {g cap k c d c':Nat} {FV AA BB:Value} {ds:List Nat} (h:RdI w0 g cap FV AA BB ds k c W) (hd:ds.length=k) (hk:k+1≤cap) (o:Obj) {B:Nat} (hB:g+2<B) :
  KeepsFrom B W ((((W.drew.setCell ⟨g+1+1,0,none⟩ (.int .u64 (c':Int))).alloc o).setCell ⟨g,k,none⟩ (.int .u32 (d:Int))).setCell ⟨g+1,0,none⟩ (.slice (some ⟨g,0,none⟩) (k+1) cap)) ∧
  KpB g (g+1+1+1+1) (g+1+1+1+1+1) W ((((W.drew.setCell ⟨g+1+1,0,none⟩ (.int .u64 (c':Int))).alloc o).setCell ⟨g,k,none⟩ (.int .u32 (d:Int))).setCell ⟨g+1,0,none⟩ (.slice (some ⟨g,0,none⟩) (k+1) cap)) ∧
  RdI w0 g cap FV AA BB (ds ++ [d]) (k+1) c' ((((W.drew.setCell ⟨g+1+1,0,none⟩ (.int .u64 (c':Int))).alloc o).setCell ⟨g,k,none⟩ (.int .u32 (d:Int))).setCell ⟨g+1,0,none⟩ (.slice (some ⟨g,0,none⟩) (k+1) cap)):=by
 obtain ⟨⟨b0,b1,b2,b3,b4,b5⟩,hb⟩:=h;have far:∀ {B:Nat} {t:TypeId} {cs:Array Value},Blk W B t cs→B≠g→B≠g+1→B≠g+1+1→Blk ((((W.drew.setCell ⟨g+1+1,0,none⟩ (.int .u64 (c':Int))).alloc o).setCell ⟨g,k,none⟩ (.int .u32 (d:Int))).setCell ⟨g+1,0,none⟩ (.slice (some ⟨g,0,none⟩) (k+1) cap)) B t cs:=fun {B t cs} hx h0 h1 h2 =>
  Blk.far (Blk.far (Blk.alloc (Blk.far (Blk.drew hx) (p:=⟨g+1+1,0,none⟩) h2 _) o) (p:=⟨g,k,none⟩) h0 _) (p:=⟨g+1,0,none⟩) h1 _
 have f4:=far b4 (by omega) (by omega) (by omega);have f5:=far b5 (by omega) (by omega) (by omega);have hbl:Below g W ((((W.drew.setCell ⟨g+1+1,0,none⟩ (.int .u64 (c':Int))).alloc o).setCell ⟨g,k,none⟩ (.int .u32 (d:Int))).setCell ⟨g+1,0,none⟩ (.slice (some ⟨g,0,none⟩) (k+1) cap)) :=
  Below.setCell (Below.setCell (Below.alloc (Below.setCell (Below.drew (Below.refl g W)) (p:=⟨g+1+1,0,none⟩) (by dsimp only;omega) _) (by have:=b0.lt;simp only [World.size_setCell];exact Nat.le_of_lt this) o) (p:=⟨g,k,none⟩) (Nat.le_refl _) _) (p:=⟨g+1,0,none⟩) (by dsimp only;omega) _
 refine ⟨?_,⟨hbl,?_,?_⟩,⟨?_,?_,?_,far b3 (by omega) (by omega) (by omega),f4,f5⟩,hb.trans hbl⟩
 ·exact KeepsFrom.trans (KeepsFrom.trans (KeepsFrom.trans (KeepsFrom.trans (KeepsFrom.drew' W) (KeepsFrom.set' _ _ (by dsimp only;omega))) (KeepsFrom.alloc' _ o)) (KeepsFrom.set' _ _ (by dsimp only;omega))) (KeepsFrom.set' _ _ (by dsimp only;omega))
 ·exact f4.trans (show W.heap[g+1+1+1+1]?=_ from b4).symm
 ·exact f5.trans (show W.heap[g+1+1+1+1+1]?=_ from b5).symm
 ·have:=Blk.far (Blk.set (Blk.alloc (Blk.far (Blk.drew b0) (p:=⟨g+1+1,0,none⟩) (by dsimp only;omega) (.int .u64 (c':Int))) o) k (.int .u32 (d:Int))) (p:=⟨g+1,0,none⟩) (by dsimp only;omega) (.slice (some ⟨g,0,none⟩) (k+1) cap)
  rwa [rowC_set hd hk] at this
 ·exact Blk.set (Blk.far (Blk.alloc (Blk.far (Blk.drew b1) (p:=⟨g+1+1,0,none⟩) (by dsimp only;omega) _) o) (p:=⟨g,k,none⟩) (by dsimp only;omega) _) 0 _
 ·exact Blk.far (Blk.far (Blk.alloc (Blk.set (Blk.drew b2) 0 _) o) (p:=⟨g,k,none⟩) (by dsimp only;omega) _) (p:=⟨g+1,0,none⟩) (by dsimp only;omega) _
theorem RdI.read {w0 W:World} {g cap k c:Nat} {FV AA BB:Value} {ds:List Nat} (h:RdI w0 g cap FV AA BB ds k c W) (hd:ds.length=k) (hk:k+1≤cap) (v1 v3:Value) (o:Obj) :
  (W.cell? ⟨g+1,0,none⟩=some (.slice (some ⟨g,0,none⟩) k cap)∧W.cell? ⟨g+1+1+1,0,none⟩=some FV) ∧
  ((W.setCell ⟨g+1+1,0,none⟩ v1).cell? ⟨g+1,0,none⟩=some (.slice (some ⟨g,0,none⟩) k cap)∧(W.setCell ⟨g+1+1,0,none⟩ v1).cell? ⟨g+1+1+1,0,none⟩=some FV) ∧
  (((W.setCell ⟨g+1+1,0,none⟩ v1).alloc o).cell? ⟨g+1,0,none⟩=some (.slice (some ⟨g,0,none⟩) k cap)∧((W.setCell ⟨g+1+1,0,none⟩ v1).alloc o).cell? ⟨g+1+1+1,0,none⟩=some FV∧((W.setCell ⟨g+1+1,0,none⟩ v1).alloc o).cell? ⟨g,k,none⟩=some (.int .u32 0)∧((W.setCell ⟨g+1+1,0,none⟩ v1).alloc o).frozen? ⟨g,k,none⟩=false) ∧
  ((((W.setCell ⟨g+1+1,0,none⟩ v1).alloc o).setCell ⟨g,k,none⟩ v3).cell? ⟨g+1,0,none⟩=some (.slice (some ⟨g,0,none⟩) k cap)∧(((W.setCell ⟨g+1+1,0,none⟩ v1).alloc o).setCell ⟨g,k,none⟩ v3).frozen? ⟨g+1,0,none⟩=false∧(((W.setCell ⟨g+1+1,0,none⟩ v1).alloc o).setCell ⟨g,k,none⟩ v3).cell? ⟨g+1+1+1,0,none⟩=some FV):=by
 obtain ⟨⟨b0,b1,b2,b3,b4,b5⟩,hb⟩:=h;have x1:=b1.far (p:=⟨g+1+1,0,none⟩) (by dsimp only;omega) v1;have x3:=b3.far (p:=⟨g+1+1,0,none⟩) (by dsimp only;omega) v1;have x0:=b0.far (p:=⟨g+1+1,0,none⟩) (by dsimp only;omega) v1;have y1:=x1.alloc o;have y3:=x3.alloc o;have y0:=x0.alloc o;have z1:=y1.far (p:=⟨g,k,none⟩) (by dsimp only;omega) v3;have z3:=y3.far (p:=⟨g,k,none⟩) (by dsimp only;omega) v3;exact ⟨⟨b1.cell 0,b3.cell 0⟩,⟨x1.cell 0,x3.cell 0⟩,⟨y1.cell 0,y3.cell 0,rowC_next y0 hd hk,y0.frozen k⟩,⟨z1.cell 0,z1.frozen 0,z3.cell 0⟩⟩
theorem RdI.drew {w0 W:World} {g cap k c:Nat} {FV AA BB:Value} {ds:List Nat} (h:RdI w0 g cap FV AA BB ds k c W):RdI w0 g cap FV AA BB ds k c W.drew:=⟨h.1,Below.drew h.2⟩
theorem OnlyN.mk {Q:Exit→Act→World→Prop} {a:Act} {w:World} (h:Q .normal a w):OnlyN Q .normal a w:=h
theorem RdI.last {w0 W:World} {g m c d c':Nat} {FV AA BB:Value} {ds:List Nat} (h:RdI w0 g (m+1) FV AA BB ds m c W) (hd:ds.length=m) (o:Obj) {D:Nat} {o1 o2:Obj} (hD:g+5<D) (hg:g=w0.heap.size) (hDW:W.heap[D]?=some o1) (h1:o1.isCells=false) (h2:o1.isWalk=false) :
  (((W.drew.setCell ⟨g+1+1,0,none⟩ (.int .u64 (c':Int))).alloc o).setCell ⟨g,m,none⟩ (.int .u32 (d:Int))).heap[D]?=some o1 ∧
  Blk ((((W.drew.setCell ⟨g+1+1,0,none⟩ (.int .u64 (c':Int))).alloc o).setCell ⟨g,m,none⟩ (.int .u32 (d:Int))).putObj D o2) g 59 (wcells (ds ++ [d])) ∧
  Below g w0 ((((W.drew.setCell ⟨g+1+1,0,none⟩ (.int .u64 (c':Int))).alloc o).setCell ⟨g,m,none⟩ (.int .u32 (d:Int))).putObj D o2):=by
 obtain ⟨⟨b0,b1,b2,b3,b4,b5⟩,hb⟩:=h;have hDs:=(Array.getElem?_eq_some_iff.1 hDW).1;have e1:(W.drew.setCell ⟨g+1+1,0,none⟩ (.int .u64 (c':Int))).heap[D]?=some o1:=(Below.heap_setCell _ ⟨g+1+1,0,none⟩ _ D (show D≠g+1+1 by omega)).trans hDW;have e2:((W.drew.setCell ⟨g+1+1,0,none⟩ (.int .u64 (c':Int))).alloc o).heap[D]?=some o1:=(Below.heap_alloc _ o D (by rw [World.size_setCell];exact hDs)).trans e1;have e3:(((W.drew.setCell ⟨g+1+1,0,none⟩ (.int .u64 (c':Int))).alloc o).setCell ⟨g,m,none⟩ (.int .u32 (d:Int))).heap[D]?=some o1:=(Below.heap_setCell _ ⟨g,m,none⟩ _ D (show D≠g by omega)).trans e2;have x0:=Blk.set (Blk.alloc (Blk.far (Blk.drew b0) (p:=⟨g+1+1,0,none⟩) (by dsimp only;omega) (.int .u64 (c':Int))) o) m (.int .u32 (d:Int));rw [rowC_set hd (Nat.le_refl _)] at x0;have er:rowC (m+1) (ds ++ [d])=wcells (ds ++ [d]):=by
  unfold rowC wcells;rw [show m+1-(ds ++ [d]).length=0 by simp [hd]];simp
 rw [er] at x0;have hbl:Below g W (((W.drew.setCell ⟨g+1+1,0,none⟩ (.int .u64 (c':Int))).alloc o).setCell ⟨g,m,none⟩ (.int .u32 (d:Int))) :=
  Below.setCell (Below.alloc (Below.setCell (Below.drew (Below.refl g W)) (p:=⟨g+1+1,0,none⟩) (by dsimp only;omega) _) (by have:=b0.lt;simp only [World.size_setCell];exact Nat.le_of_lt this) o) (p:=⟨g,m,none⟩) (Nat.le_refl _) _
 have hp:Below w0.heap.size (((W.drew.setCell ⟨g+1+1,0,none⟩ (.int .u64 (c':Int))).alloc o).setCell ⟨g,m,none⟩ (.int .u32 (d:Int))) ((((W.drew.setCell ⟨g+1+1,0,none⟩ (.int .u64 (c':Int))).alloc o).setCell ⟨g,m,none⟩ (.int .u32 (d:Int))).putObj D o2) :=
  belowK_b (w:=w0) (Nat.le_refl _) _ D o1 o2 (by omega) e3 h1 h2
 refine ⟨e3,?_,(hb.trans hbl).trans (hp.mono (by omega))⟩;have hblk:∀ X:World,Blk X g 59 (wcells (ds ++ [d]))→Blk (X.putObj D o2) g 59 (wcells (ds ++ [d])):=fun X hX=>by
  unfold Blk at hX ⊢;simp only [World.putObj];rw [← hX];simp [Array.getElem?_setIfInBounds,Array.set!_eq_setIfInBounds,show D≠g by omega]
 exact hblk _ x0
theorem RdI.readN {w0 W:World} {g cap k c:Nat} {FV AA BB:Value} {ds:List Nat} (h:RdI w0 g cap FV AA BB ds k c W) (hd:ds.length=k) (hk:k+1≤cap) (v1 v3:Value) (o:Obj) :
  (W.cell? ⟨g+1,0,none⟩=some (.slice (some ⟨g,0,none⟩) k cap)∧W.cell? ⟨g+1+1+1,0,none⟩=some FV) ∧
  ((W.setCell ⟨g+1+1,0,none⟩ v1).cell? ⟨g+1,0,none⟩=some (.slice (some ⟨g,0,none⟩) k cap)∧(W.setCell ⟨g+1+1,0,none⟩ v1).cell? ⟨g+1+1+1,0,none⟩=some FV) ∧
  ((((W.setCell ⟨g+1+1,0,none⟩ v1).alloc o).cell? ⟨g+1,0,none⟩=some (.slice (some ⟨g,0,none⟩) k cap)∧((W.setCell ⟨g+1+1,0,none⟩ v1).alloc o).cell? ⟨g+1+1+1,0,none⟩=some FV)∧((W.setCell ⟨g+1+1,0,none⟩ v1).alloc o).cell? ⟨g,k,none⟩=some (.int .u32 0)∧((W.setCell ⟨g+1+1,0,none⟩ v1).alloc o).frozen? ⟨g,k,none⟩=false) ∧
  ((((W.setCell ⟨g+1+1,0,none⟩ v1).alloc o).setCell ⟨g,k,none⟩ v3).cell? ⟨g+1,0,none⟩=some (.slice (some ⟨g,0,none⟩) k cap)∧(((W.setCell ⟨g+1+1,0,none⟩ v1).alloc o).setCell ⟨g,k,none⟩ v3).cell? ⟨g+1+1+1,0,none⟩=some FV):=by
 obtain ⟨h1,h2,⟨h3,h4,h5,h6⟩,h7,_,h8⟩:=h.read hd hk v1 v3 o;exact ⟨h1,h2,⟨⟨h3,h4⟩,h5,h6⟩,h7,h8⟩
end Go.Proofs.YtjajigkacccdgaaGreat
namespace Go.Proofs.YtjajigkacccdgaaGreat
namespace Wd
theorem val_take_succ (l:List Nat) (i:Nat):val (l.take (i+1))=val (l.take i)+4294967296 ^ i*l[i]?.getD 0:=by
 by_cases h:i<l.length
 ·rw [List.take_add_one,List.getElem?_eq_getElem h];show val (l.take i ++ [l[i]])=_;rw [val_snoc,List.length_take,Nat.min_eq_left (by omega)]
  rfl
 ·rw [List.take_of_length_le (by omega),List.take_of_length_le (by omega),List.getElem?_eq_none (by omega)];simp
theorem val_drop_succ (l:List Nat) (i:Nat):val (l.drop i)=l[i]?.getD 0+4294967296*val (l.drop (i+1)):=by
 by_cases h:i<l.length
 ·rw [List.drop_eq_getElem_cons h,val_cons,List.getElem?_eq_getElem h]
  rfl
 ·rw [List.drop_eq_nil_of_le (by omega),List.drop_eq_nil_of_le (by omega),List.getElem?_eq_none (by omega)]
  rfl
theorem getD_drop (l:List Nat) (k i:Nat):(l.drop k)[i]?.getD 0=l[k+i]?.getD 0:=by rw [List.getElem?_drop]
structure SdInv (l:List Nat) (y i:Nat) (p:List Nat) (r:Nat):Prop where
 len:p.length=l.length
 ws:Ws p
 low:∀ j,j<i→p[j]?.getD 0=l[j]?.getD 0
 eq:val (l.drop i)=y*val (p.drop i)+r
 rest:r<y
theorem SdInv.start {l:List Nat} {y:Nat} (h:Ws l) (hy:0<y):SdInv l y l.length l 0:=⟨rfl,h,fun _ _=>rfl,by simp [val_nil],hy⟩
theorem SdInv.step {l p:List Nat} {y i r:Nat} (h:SdInv l y (i+1) p r) (hl:Ws l) (hi:i<l.length) (hy:y<4294967296) :
  SdInv l y i (p.set i ((r*4294967296+l[i]?.getD 0) / y)) ((r*4294967296+l[i]?.getD 0) % y)∧(r*4294967296+l[i]?.getD 0) / y<4294967296∧r*4294967296+l[i]?.getD 0<18446744073709551616:=by
 have hd:=hl.get i;have hr:=h.rest;have hx:r*4294967296+l[i]?.getD 0<y*4294967296:=by
  have:(r+1)*4294967296≤y*4294967296:=Nat.mul_le_mul_right _ hr;omega
 have hq:(r*4294967296+l[i]?.getD 0) / y<4294967296:=by
  rw [Nat.div_lt_iff_lt_mul (by omega)];omega
 refine ⟨⟨by rw [List.length_set];exact h.len,h.ws.set i hq,fun j hj=>?_,?_,Nat.mod_lt _ (by omega)⟩,hq,by omega⟩
 ·rw [get_set_other _ (by omega)];exact h.low j (by omega)
 ·have e1:(p.set i ((r*4294967296+l[i]?.getD 0) / y)).drop (i+1)=p.drop (i+1):=by rw [List.drop_set_of_lt (by omega)]
  have e2:(p.set i ((r*4294967296+l[i]?.getD 0) / y))[i]?.getD 0=(r*4294967296+l[i]?.getD 0) / y:=by rw [List.getElem?_set,if_pos rfl,if_pos (by rw [h.len];exact hi)];rfl
  rw [val_drop_succ l i,val_drop_succ (p.set i _) i,e1,e2,h.eq];have hdm:=Nat.div_add_mod (r*4294967296+l[i]?.getD 0) y;generalize (r*4294967296+l[i]?.getD 0) / y=q at *;generalize (r*4294967296+l[i]?.getD 0) % y=m at *;rw [Nat.mul_add,Nat.mul_add,Nat.mul_left_comm];omega
theorem SdInv.done {l p:List Nat} {y r:Nat} (h:SdInv l y 0 p r):val p=val l / y∧r=val l % y:=by
 have h1:=h.eq;have h2:=h.rest;simp only [List.drop_zero] at h1;have h3:=Nat.div_mod_unique (a:=val l) (b:=y) (c:=r) (d:=val p) (by omega);have h4:=h3.2 ⟨by rw [h1];omega,h2⟩;exact ⟨h4.1.symm,h4.2.symm⟩
structure SmInv (u v:List Nat) (f i:Nat) (p:List Nat) (c b:Nat):Prop where
 len:p.length=u.length
 ws:Ws p
 high:∀ j,i≤j→p[j]?.getD 0=u[j]?.getD 0
 carry:c<4294967296
 borrow:b≤1
 none:v.length<i→c=0
 eq:val (u.take i)+4294967296 ^ i*(b+c)=val (p.take i)+f*val (v.take i)
theorem SmInv.start {u:List Nat} (v:List Nat) (f:Nat) (hu:Ws u):SmInv u v f 0 u 0 0:=⟨rfl,hu,fun _ _=>rfl,by decide,by decide,fun _=>rfl,by simp [val_nil]⟩
def lessW (x y:Nat):Nat:=if y≤x then x-y else x+4294967296-y
def lessB (x y:Nat):Nat:=if y≤x then 0 else 1
theorem SmInv.step {u v p:List Nat} {f i c b:Nat} (h:SmInv u v f i p c b) (hu:Ws u) (hv:Ws v) (hf:f≤4294967296) (hi:i<u.length) :
  v[i]?.getD 0*f+c<18446744073709551616∧SmInv u v f (i+1) (p.set i (lessW (u[i]?.getD 0) ((v[i]?.getD 0*f+c) % 4294967296+b))) ((v[i]?.getD 0*f+c) / 4294967296) (lessB (u[i]?.getD 0) ((v[i]?.getD 0*f+c) % 4294967296+b)):=by
 have hvi:=hv.get i;have hui:=hu.get i;have hc:=h.carry;have hb:=h.borrow;have hm:v[i]?.getD 0*f≤4294967295*4294967296:=Nat.mul_le_mul (by omega) hf;have hx:v[i]?.getD 0*f+c<18446744073709551616:=by omega
 have hz:v.length<i+1→(v[i]?.getD 0*f+c) / 4294967296=0:=fun hlt=>by
  rw [List.getElem?_eq_none (by omega)];simp only [Option.getD_none,Nat.zero_mul,Nat.zero_add];exact Nat.div_eq_of_lt hc
 have ht:=val_take_succ v i;have htu:=val_take_succ u i;have htp:=val_take_succ (p.set i (lessW (u[i]?.getD 0) ((v[i]?.getD 0*f+c) % 4294967296+b))) i;have hts:(p.set i (lessW (u[i]?.getD 0) ((v[i]?.getD 0*f+c) % 4294967296+b))).take i=p.take i:=List.take_set_of_le (Nat.le_refl i);rw [hts,List.getElem?_set,if_pos rfl,if_pos (by rw [h.len];exact hi)] at htp;simp only [Option.getD_some] at htp;have hdm:=Nat.div_add_mod (v[i]?.getD 0*f+c) 4294967296;have hml:(v[i]?.getD 0*f+c) % 4294967296<4294967296:=Nat.mod_lt _ (by decide);have he:=h.eq;refine ⟨hx,⟨by rw [List.length_set];exact h.len,h.ws.set i ?_,fun j hj=>?_,?_,?_,hz,?_⟩⟩
 ·unfold lessW;split<;>omega
 ·rw [get_set_other _ (by omega)];exact h.high j (by omega)
 ·rw [Nat.div_lt_iff_lt_mul (by decide)];omega
 ·unfold lessB;split<;>omega
 ·rw [ht,htu,htp,Nat.mul_add f,Nat.mul_left_comm f,Nat.pow_succ];have key:u[i]?.getD 0+4294967296*lessB (u[i]?.getD 0) ((v[i]?.getD 0*f+c) % 4294967296+b)=lessW (u[i]?.getD 0) ((v[i]?.getD 0*f+c) % 4294967296+b)+((v[i]?.getD 0*f+c) % 4294967296+b):=by
   unfold lessB lessW;split<;>omega
  rw [Nat.mul_comm (v[i]?.getD 0) f] at *;generalize lessB (u[i]?.getD 0) ((f*v[i]?.getD 0+c) % 4294967296+b)=b' at *;generalize lessW (u[i]?.getD 0) ((f*v[i]?.getD 0+c) % 4294967296+b)=d at *;generalize (f*v[i]?.getD 0+c) / 4294967296=c' at *;generalize (f*v[i]?.getD 0+c) % 4294967296=m at *;have k2:u[i]?.getD 0+4294967296*(b'+c')=d+(b+(f*v[i]?.getD 0+c)):=by omega
  generalize hP:4294967296 ^ i=P at *;have k3:=congrArg (fun z=>P*z) k2;simp only [Nat.mul_add] at k3 he ⊢;rw [Nat.mul_assoc,Nat.mul_assoc];omega
theorem SmInv.done {u v p:List Nat} {f c b:Nat} (h:SmInv u v f u.length p c b) (hv:v.length<u.length):(b=0→val u=val p+f*val v)∧(b≠0→val u+4294967296 ^ u.length=val p+f*val v):=by
 have h1:=h.eq;have h2:=h.borrow;rw [h.none hv,List.take_length,List.take_of_length_le (show v.length≤u.length by omega),List.take_of_length_le (show p.length≤u.length by rw [h.len];exact Nat.le_refl _)] at h1;refine ⟨fun hb=>?_,fun hb=>?_⟩
 ·subst hb;omega
 ·obtain rfl:b=1:=by omega
  omega
theorem digit_rest {u p v:List Nat} {g b c:Nat} (hsm:SmInv u v g u.length p c b) (hu:Ws u) (hv:Ws v) (hl:u.length=v.length+1) (hV:0<val v) (h1:val u / val v≤g) (h2:g≤val u / val v+1) :
  (b=0→g=val u / val v∧val p=val u % val v)∧(b≠0→g=val u / val v+1∧val (cdig 0 (sumW p v u.length))=val u % val v):=by
 obtain ⟨k1,k2⟩:=hsm.done (by omega);have hdm:=Nat.div_add_mod (val u) (val v);have hml:=Nat.mod_lt (val u) hV;have hup:=val_lt hu;have hvp:=val_lt hv;have hpp:=val_lt hsm.ws;rw [hsm.len] at hpp;have hq:g=val u / val v∨g=val u / val v+1:=by omega
 generalize val u / val v=q at *;generalize val u % val v=r at *;refine ⟨fun hb=>?_,fun hb=>?_⟩
 ·have e:=k1 hb;rcases hq with rfl|rfl
  ·rw [Nat.mul_comm (val v)] at hdm;exact ⟨rfl,by omega⟩
  ·rw [Nat.add_mul,Nat.mul_comm q] at e;omega
 ·have e:=k2 hb;rcases hq with rfl|rfl
  ·rw [Nat.mul_comm g] at e;omega
  ·refine ⟨rfl,?_⟩;have hs:=cdig_val 0 (sumW p v u.length);have hmx:u.length=max p.length v.length:=by rw [hsm.len];omega
   have hsl:(sumW p v u.length).length=u.length:=by simp [sumW]
   have hvs:val (sumW p v u.length)=val p+val v:=by rw [hmx];exact val_sumW p v
   have hlt:=val_lt (cdig_Ws 0 (sumW p v u.length));rw [cdig_len,hsl] at hlt;rw [hsl,hvs] at hs;have hvu:4294967296 ^ v.length≤4294967296 ^ u.length:=Nat.pow_le_pow_right (by decide) (by omega);rw [Nat.add_mul,Nat.mul_comm q] at e;generalize 4294967296 ^ u.length=P at *;generalize cout 0 (sumW p v u.length)=c' at *;generalize val (cdig 0 (sumW p v u.length))=x at *;have hc1:c'=1:=by
    rcases Nat.lt_trichotomy c' 1 with h|h|h
    ·have:c'=0:=by omega
     subst this;omega
    ·exact h
    ·have:P*2≤P*c':=Nat.mul_le_mul_left P (by omega);omega
   subst hc1;omega
def shr (u:List Nat) (s n:Nat):List Nat:=(List.range n).map fun i=>(u[i]?.getD 0+4294967296*u[i+1]?.getD 0) / 2 ^ s % 4294967296
theorem shr_val {s:Nat} (hs:s≤32):∀ (n:Nat) (u:List Nat),Ws u→val (shr u s n)=val u / 2 ^ s % 4294967296 ^ n
 | 0,u,_=>by simp [shr,val_nil,Nat.mod_one]
 | n+1,u,hu=>by
  have ih:=shr_val hs n (u.drop 1) (hu.drop 1);have e:shr u s (n+1)=((u[0]?.getD 0+4294967296*u[1]?.getD 0) / 2 ^ s % 4294967296) :: shr (u.drop 1) s n:=by
   unfold shr;rw [List.range_succ_eq_map,List.map_cons,List.map_map]
   congr 1
   refine List.map_congr_left fun i _=>?_;simp only [Function.comp,getD_drop];rw [show 1+i=i.succ by omega,show 1+(i+1)=i.succ+1 by omega]
  have e0:=val_drop_succ u 0;have e1:=val_drop_succ u 1;simp only [List.drop_zero,Nat.zero_add] at e0;rw [e,val_cons,ih];obtain ⟨m,hm⟩:∃ m,4294967296=2 ^ s*m:=by
   refine ⟨2 ^ (32-s),?_⟩;rw [← Nat.pow_add,show s+(32-s)=32 by omega]
  have h2:0<2 ^ s:=Nat.pow_pos (by decide);have k1:val u / 2 ^ s % 4294967296=(u[0]?.getD 0+4294967296*u[1]?.getD 0) / 2 ^ s % 4294967296:=by
   rw [e0,e1,Nat.mul_add,← Nat.add_assoc];generalize u[0]?.getD 0+4294967296*u[1]?.getD 0=x;generalize val (u.drop (1+1))=y;have:4294967296*(4294967296*y)=2 ^ s*(m*(4294967296*y)):=by rw [← Nat.mul_assoc (2 ^ s),← hm]
   rw [this,Nat.add_mul_div_left _ _ h2,← Nat.mul_assoc,Nat.mul_comm m,Nat.mul_assoc,Nat.add_mul_mod_self_left]
  have k2:val u / 2 ^ s / 4294967296=val (u.drop 1) / 2 ^ s:=by
   rw [Nat.div_div_eq_div_mul,Nat.mul_comm,← Nat.div_div_eq_div_mul]
   congr 1
   have:=hu.get 0;omega
  rw [Nat.pow_succ,Nat.mul_comm (4294967296 ^ n),Nat.mod_mul,k1,k2]
end Wd
end Go.Proofs.YtjajigkacccdgaaGreat
namespace Go.Proofs.YtjajigkacccdgaaGreat
open Go.RowKit
open Wd
def Rw (w:World) (b o n:Nat) (p:List Nat):Prop :=
 p.length=n∧Ws p∧b<w.heap.size∧(∀ j,j<n→w.cell? ⟨b,o+j,none⟩=some (.int .u32 ((p[j]?.getD 0:Nat):Int)))∧∀ j,j<n→w.frozen? ⟨b,o+j,none⟩=false
theorem Rw.wat {w:World} {b o n:Nat} {p:List Nat} (h:Rw w b o n p):Wat w (some ⟨b,o,none⟩) n p:=⟨h.1,h.2.1,fun _=>⟨b,o,rfl,h.2.2.1,h.2.2.2.1⟩⟩
theorem Rw.of {w:World} {base n:Nat} {A:Option Addr} {p:List Nat} (h:Wat w A n p) (hf:Fresh base w A n) (hn:n≠0):∃ b o,A=some ⟨b,o,none⟩∧base≤b∧Rw w b o n p:=by
 obtain ⟨b,o,rfl,h1,h2⟩:=h.2.2 hn;obtain ⟨b',o',e,h3,h4⟩:=hf hn;simp only [Option.some.injEq,Addr.mk.injEq] at e;obtain ⟨rfl,rfl,_⟩:=e;exact ⟨b,o,rfl,h3,h.1,h.2.1,h1,h2,h4⟩
theorem Rw.fresh {w:World} {base b o n:Nat} {p:List Nat} (h:Rw w b o n p) (hb:base≤b):Fresh base w (some ⟨b,o,none⟩) n:=fun _=>⟨b,o,rfl,hb,h.2.2.2.2⟩
theorem Rw.blk {w:World} {g:Nat} {t:TypeId} {p:List Nat} (h:Blk w g t (wcells p)) (hp:Ws p):Rw w g 0 p.length p :=
 ⟨rfl,hp,h.lt,fun j hj=>by rw [Nat.zero_add];exact h.word hj,fun j hj=>h.frozen _⟩
theorem Rw.set {w:World} {b o n:Nat} {p:List Nat} (h:Rw w b o n p) {i d:Nat} (hi:i<n) (hd:d<4294967296):Rw (w.setCell ⟨b,o+i,none⟩ (.int .u32 (d:Int))) b o n (p.set i d):=by
 obtain ⟨h1,h2,h3,h4,h5⟩:=h;refine ⟨by rw [List.length_set];exact h1,h2.set i hd,by rw [World.size_setCell];exact h3,fun j hj=>?_,fun j hj=>by rw [World.frozen?_setCell];exact h5 j hj⟩;by_cases e:i=j
 ·subst e;rw [World.cell?_setCell_same' w ⟨b,o+i,none⟩ _ (by rw [h4 i hi];rfl),List.getElem?_set_self (by omega)]
  rfl
 ·rw [List.getElem?_set_ne e,← h4 j hj];exact World.cell?_setCell_other _ _ _ _ (fun hh=>e (by have:=congrArg Addr.off hh;dsimp only at this;omega))
theorem Rw.heap {w w':World} {b o n:Nat} {p:List Nat} (h:Rw w b o n p) (hs:w.heap.size≤w'.heap.size) (hk:w'.heap[b]?=w.heap[b]?):Rw w' b o n p:=by
 obtain ⟨h1,h2,h3,h4,h5⟩:=h;refine ⟨h1,h2,Nat.lt_of_lt_of_le h3 hs,fun j hj=>?_,fun j hj=>?_⟩
 ·rw [World.cell?_of_block (a:=⟨b,o+j,none⟩) hk];exact h4 j hj
 ·rw [← h5 j hj];simp only [World.frozen?,hk]
theorem Rw.below {w w':World} {b o n B:Nat} {p:List Nat} (h:Rw w b o n p) (hb:Below B w w') (hB:b<B):Rw w' b o n p:=h.heap hb.size (hb.block b hB)
structure Bx (b:Nat) (w w':World):Prop where
 os:w'.os=w.os
 tape:w'.tape=w.tape
 output:w'.output=w.output
 size:w.heap.size≤w'.heap.size
 block:∀ k,k<w.heap.size→k≠b→w'.heap[k]?=w.heap[k]?
theorem Bx.refl (b:Nat) (w:World):Bx b w w:=⟨rfl,rfl,rfl,Nat.le_refl _,fun _ _ _=>rfl⟩
theorem Bx.trans {b:Nat} {u v w:World} (h:Bx b u v) (k:Bx b v w):Bx b u w:=⟨k.os.trans h.os,k.tape.trans h.tape,k.output.trans h.output,Nat.le_trans h.size k.size,fun j hj hne=>(k.block j (Nat.lt_of_lt_of_le hj h.size) hne).trans (h.block j hj hne)⟩
theorem Bx.of {b:Nat} {w w':World} (h:Below w.heap.size w w'):Bx b w w':=⟨h.os,h.tape,h.output,h.size,fun k hk _=>h.block k hk⟩
theorem Bx.set {b:Nat} {w w':World} (h:Bx b w w') (o:Nat) (v:Value):Bx b w (w'.setCell ⟨b,o,none⟩ v) :=
 h.trans ⟨rfl,rfl,rfl,by rw [World.size_setCell];exact Nat.le_refl _,fun k _ hne=>Below.heap_setCell _ ⟨b,o,none⟩ v k hne⟩
theorem Bx.drew {b:Nat} {w w':World} (h:Bx b w w'):Bx b w w'.drew:=⟨h.os,h.tape,h.output,h.size,h.block⟩
theorem Bx.below {b:Nat} {w0 w w':World} (h:Below w0.heap.size w0 w) (k:Bx b w w') (hb:w0.heap.size≤b):Below w0.heap.size w0 w':=⟨k.os.trans h.os,k.tape.trans h.tape,k.output.trans h.output,Nat.le_trans h.size k.size,fun j hj=>(k.block j (Nat.lt_of_lt_of_le hj h.size) (by omega)).trans (h.block j hj)⟩
theorem Bx.rw {b b' o n:Nat} {w w':World} {p:List Nat} (h:Bx b w w') (hr:Rw w b' o n p) (hne:b'≠b):Rw w' b' o n p:=hr.heap h.size (h.block b' hr.2.2.1 hne)
theorem or_words (r d:Nat) (hr:r<4294967296) (hd:d<4294967296):Go.bits .or .u64 ((r:Int)*4294967296) (d:Int)=((r*4294967296+d:Nat):Int):=by
 rw [show ((r:Int)*4294967296)=((r*4294967296:Nat):Int) by omega,u64_or_nat _ _ (by omega) (by omega),Nat.or_comm,or_shift _ _ hd hr];omega
theorem shortDiv_any (b o n c y:Nat) (l:List Nat) (w:World) (h:Rw w b o n l) (hn:n≤10000000000) (hy:0<y) (hy2:y<4294967296) :
  Calls Tryz.prog 218 #[.slice (some ⟨b,o,none⟩) n c,.int .u64 (y:Int)] w fun e w'=>∃ p,e=.returned (.int .u64 ((val l % y:Nat):Int))∧Rw w' b o n p∧val p=val l / y∧Bx b w w':=by
 have w0:IntKind.i64.wrap ((n:Int)-1)=(n:Int)-1:=IntWalk.i64_in _ (by omega);have hy0:((y:Int) == 0)=false:=by simp;omega
 have hy1:¬ y=0:=by omega
 have HL:=Hj h.1;have HW:=Hj h.2.1;have HS:=Hj (show SdInv l y n l 0∧Rw w b o n l∧Bx b w w from ⟨by have:=SdInv.start h.2.1 hy;rwa [h.1] at this,h,Bx.refl _ _⟩);have HY:=Hj hy;have HY2:=Hj hy2;clear h hy hy2;go_enter Tryz.func218,Tryz.ntmps218;go_wp2
 go_loopw [5,6] (fun t5 t6 wr=>∃ (k r:Nat) (i:Int) (p:List Nat),k≤n∧t6=.int .i64 i∧i=(k:Int)-1∧t5=.int .u64 (r:Int)∧Hid (SdInv l y k p r∧Rw wr b o n p∧Bx b w wr)) (fun _ t _=>(intOf t+1).toNat)
 case atStart=>exact ⟨n,0,_,l,Nat.le_refl _,rfl,rfl,rfl,HS.out⟩
 case round =>
  clear HS;obtain ⟨k,r,i,p,hk,rfl,hi,rfl,hR⟩:=hrel;obtain ⟨wu,rfl⟩:∃ v,v=wr:=⟨_,rfl⟩;cases k with
  | zero =>
   have hz:¬ (0:Int)≤i:=by omega
   obtain ⟨h1,h2,h3⟩:=hR.out;obtain ⟨h4,h5⟩:=h1.done;have HF:=Hj (And.intro h2 (And.intro h4 h3));have HE:=Hj h5;clear hR h1 h2 h3 h4 h5;go_wp2;go_ret;exact ⟨ret_int (by rw [HE.out];push_cast;rfl),p,HF.out⟩
  | succ k =>
   obtain rfl:i=(k:Int):=by omega
   obtain ⟨h1,h2,h3⟩:=hR.out;have hl:=HL.out;obtain ⟨s1,s2,s3⟩:=h1.step HW.out (show k<l.length by omega) HY2.out;have d0:=h2.2.2.2.1 k (by omega);have f0:=h2.2.2.2.2 k (by omega);rw [h1.low k (by omega)] at d0;have hdw:=HW.out.get k;have hr:=Nat.lt_trans h1.rest HY2.out;have hor:=or_words r (l[k]?.getD 0) hr hdw;have wr1:IntKind.u64.wrap ((r:Int)*4294967296)=(r:Int)*4294967296:=by rw [IntKind.wrap_u64];omega
   have wd:IntKind.u64.wrap ((l[k]?.getD 0:Nat):Int)=((l[k]?.getD 0:Nat):Int):=by rw [IntKind.wrap_u64];omega
   have hn2:=h2.set (i:=k) (by omega) s2;have HN:=Hj (And.intro s1 (And.intro hn2 (h3.set (o+k) (.int .u32 (((r*4294967296+l[k]?.getD 0) / y:Nat):Int)))));have HQ:=Hj (And.intro s2 s3);have i1:(0:Int)≤(k:Int):=by omega
   have i2:(k:Int)<(n:Int):=by omega
   have hx64:=s3;have q1:IntKind.u64.wrap (((r*4294967296+l[k]?.getD 0:Nat):Int).tdiv (y:Int))=(((r*4294967296+l[k]?.getD 0) / y:Nat):Int):=by
    have:=HY.out;rw [IntWalk.u64_quo _ _ ⟨by omega,by omega,by omega⟩];rfl
   have q2:(((r*4294967296+l[k]?.getD 0:Nat):Int).tmod (y:Int))=(((r*4294967296+l[k]?.getD 0) % y:Nat):Int):=by
    rw [IntWalk.rem_in _ _ (by omega)];rfl
   have q1':IntKind.u64.wrap (((r*4294967296+l[k]?.getD 0:Nat):Int) / (y:Int))=(((r*4294967296+l[k]?.getD 0) / y:Nat):Int):=by
    have e:(((r*4294967296+l[k]?.getD 0:Nat):Int) / (y:Int))=(((r*4294967296+l[k]?.getD 0) / y:Nat):Int):=rfl;have:=Nat.lt_of_le_of_lt (Nat.div_le_self (r*4294967296+l[k]?.getD 0) y) hx64;rw [e,IntKind.wrap_u64];generalize (r*4294967296+l[k]?.getD 0) / y=q at *;clear q1;omega
   have q2':(((r*4294967296+l[k]?.getD 0:Nat):Int) % (y:Int))=(((r*4294967296+l[k]?.getD 0) % y:Nat):Int):=rfl;generalize (r*4294967296+l[k]?.getD 0) / y=q at *;generalize (r*4294967296+l[k]?.getD 0) % y=m at *;have q3:(q:Int) % 4294967296=(q:Int):=by omega
   have wk:IntKind.i64.wrap ((k:Int)-1)=(k:Int)-1:=IntWalk.i64_in _ (by omega);generalize r*4294967296+l[k]?.getD 0=x at *;generalize l[k]?.getD 0=d at *;clear s1 s2 s3 hn2 h1 h2 h3 hR hdw hl hr hx64;clear hi;go_wp2;go_roundw
   case rel=>exact ⟨k,m,_,_,by omega,rfl,rfl,rfl,HN.out⟩
   case measure=>simp [intOf]
end Go.Proofs.YtjajigkacccdgaaGreat
