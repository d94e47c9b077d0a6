/-
addWords of package whole. No statement of the seat is proved here; no conditions beyond those of each theorem.
-/
import Derived.Test.YtjajigkacccdgaaGreatTbAP
import Derived.Test.YtjajigkacccdgaaGreatTbAD
import Derived.Laws.EntriesVeiled
namespace Go.Proofs.YtjajigkacccdgaaGreat
set_option linter.unusedVariables false
set_option linter.unusedSimpArgs false
open Go.RowKit Go.Shelf
open Wd
attribute [local go_sem] Oper.semAt_some

/-- A row of cap words of which the first are ds. -/
def rowC (cap : Nat) (ds : List Nat) : Array Value := (u32s (ds ++ List.replicate (cap - ds.length) 0)).toArray
theorem rowC_start (cap : Nat) : madeCells #[.int .u32 0] cap = rowC cap [] := by
 rw [wcells_zero]
 simp [wcells, rowC]
theorem rowC_next {w : World} {g cap k : Nat} {ds : List Nat} (h : Blk w g 59 (rowC cap ds)) (hd : ds.length = k) (hk : k + 1 ≤ cap) : w.cell? ⟨g, k, none⟩ = some (.int .u32 0) := by
 rw [h.cell k]
 subst hd
 simp [rowC, u32s, show 0 < cap - ds.length by omega]
theorem rowC_set {cap k d : Nat} {ds : List Nat} (hd : ds.length = k) (hk : k + 1 ≤ cap) : (rowC cap ds).setIfInBounds k (.int .u32 (d : Int)) = rowC cap (ds ++ [d]) := by
 subst hd
 unfold rowC u32s
 have e : cap - ds.length = (cap - (ds ++ [d]).length) + 1 := by simp; omega
 rw [e, List.replicate_succ]
 simp
theorem blk_own {β : Type} (B : Nat) (t : TypeId) (f : β → Array Value) : Go.Own (fun s W => Blk W B t (f s)) := fun s X Y row hs hg hrow =>
 (hg.block B (Blk.lt hs) (fun e' => by obtain ⟨o, ho, hc⟩ := hrow B e'.symm; rw [show X.heap[B]? = _ from hs] at ho; cases ho; cases hc)).trans hs

theorem pairs_in (n : Nat) (A A' : Option Addr) (la lb ca cb : Nat) (w : World) :
  CallsIn Fence.wide n Tryz.prog 220 #[.slice A la ca, .slice A' lb cb] w fun e w' => e = .returned (.func (.func 226) #[] #[.pointer (some ⟨w.heap.size, 0, none⟩), .pointer (some ⟨w.heap.size + 1, 0, none⟩)]) ∧ w' = (w.alloc (.cells #[.slice A la ca] 38)).alloc (.cells #[.slice A' lb cb] 38) := by
 have hmf : ∀ (fn : Fn) (first cap : Array Value) (w : World), (Instr.makeFunc fn first cap).run Tryz.prog w = .ok (.func fn first cap) w := fun _ _ _ _ => rfl
 refine callsIn_of_wp Tryz.func220 rfl trivial ?_ rfl
 simp only [Tryz.ntmps220, List.size_toArray, List.length_cons, List.length_nil, Nat.reduceAdd, Nat.reduceSub, Array.replicate_succ, Array.replicate_zero, List.push_toArray, List.append_toArray, List.nil_append, List.cons_append]
 gi_wp2
 go_ret
 exact ⟨rfl, rfl⟩

theorem pairs_stops (n : Nat) (hn : 1 ≤ n) (Ba Bb n₀ : Nat) (A A' : Option Addr) (la lb ca cb : Nat) (l l' : List Nat) (h : Ws l) (h' : Ws l') (hla : la ≤ 10000000000) (hlb : lb ≤ 10000000000) (w : World) (hBa : w.cell? ⟨Ba, 0, none⟩ = some (.slice A la ca)) (hBb : w.cell? ⟨Bb, 0, none⟩ = some (.slice A' lb cb)) (hba : Ba < w.heap.size) (hbb : Bb < w.heap.size) (hn₀ : n₀ ≤ w.heap.size) (ha : WatB n₀ w A la l) (hb : WatB n₀ w A' lb l') :
  SeqStopsK Fence.wide n Tryz.prog 226 #[.pointer (some ⟨Ba, 0, none⟩), .pointer (some ⟨Bb, 0, none⟩)] PW.enc (KpB n₀ Ba Bb) (fun ys => ys = pws l l' h h' (max la lb)) (fun pre => ∃ k, k ≤ max la lb ∧ pre = pws l l' h h' k) (max la lb) w := fun r J Jx W hW _ _ hY h0 =>
 pairs1_in n hn r Ba Bb n₀ A A' la lb ca cb l l' h h' J Jx hla hlb hY W ((hW.cell (p := ⟨Ba, 0, none⟩) hba).trans hBa) ((hW.cell (p := ⟨Bb, 0, none⟩) hbb).trans hBb) (ha.below (hW.mono hn₀)) (hb.below (hW.mono hn₀)) h0

theorem next_nat (g x c : Nat) (y : Int) (hy : y = (x : Int)) (w : World) (hg : Blk w g 164 #[.int .u64 (c : Int)]) (hx : x + c < 18446744073709551616) :
  Calls Tryz.prog 217 #[.int .u64 y, .pointer (some ⟨g, 0, none⟩)] w fun e w' => e = .returned (.int .u32 (((x + c) % 4294967296 : Nat) : Int)) ∧ w.setCell ⟨g, 0, none⟩ (.int .u64 (((x + c) / 4294967296 : Nat) : Int)) = w' := by
 subst hy
 have h := next_any g (x : Int) (c : Int) w hg (by omega) (by omega) (by omega)
 rw [show ((x : Int) + (c : Int)) % 4294967296 = (((x + c) % 4294967296 : Nat) : Int) by omega, show ((x : Int) + (c : Int)) / 4294967296 = (((x + c) / 4294967296 : Nat) : Int) by omega] at h
 exact h
/-- The numbers that are carried on. -/
def sumsP (pre : List PW) : List Nat := pre.map fun x => x.1.1 + x.1.2
theorem sumsP_snoc (pre : List PW) (x : PW) : sumsP (pre ++ [x]) = sumsP pre ++ [x.1.1 + x.1.2] := by simp [sumsP]
theorem sumsP_all (l l' : List Nat) (h : Ws l) (h' : Ws l') (m : Nat) : sumsP (pws l l' h h' m) = sumW l l' m := by
 unfold sumsP pws sumW
 rw [List.map_map]
 rfl
theorem sumsP_carry (pre : List PW) : cout 0 (sumsP pre) < 2 := by
 refine cout_lt (by decide) (by decide) fun t ht => ?_
 obtain ⟨x, _, rfl⟩ := List.mem_map.1 ht
 have := x.2
 omega


/-- The boxes of a sum that grows: the row, its slice, the carry, the carrier, the two magnitudes. -/
def RdI (w0 : World) (g cap : Nat) (FV AA BB : Value) (ds : List Nat) (k c : Nat) (W : World) : Prop :=
 (Blk W g 59 (rowC cap ds) ∧ Blk W (g + 1) 38 #[.slice (some ⟨g, 0, none⟩) k cap] ∧ Blk W (g + 1 + 1) 164 #[.int .u64 (c : Int)] ∧ Blk W (g + 1 + 1 + 1) 203 #[FV] ∧ Blk W (g + 1 + 1 + 1 + 1) 38 #[AA] ∧ Blk W (g + 1 + 1 + 1 + 1 + 1) 38 #[BB]) ∧ Below g w0 W
theorem KeepsFrom.set' {B : Nat} (W : World) {p : Addr} (v : Value) (hp : p.block < B) : KeepsFrom B W (W.setCell p v) :=
 ⟨by rw [World.size_setCell]; exact Nat.le_refl _, fun k o hB hk _ => (Below.heap_setCell W p v k (by omega)).trans hk⟩
theorem KeepsFrom.alloc' {B : Nat} (W : World) (o : Obj) : KeepsFrom B W (W.alloc o) :=
 ⟨by simp, fun k o' hB hk _ => (Below.heap_alloc W o k (Array.getElem?_eq_some_iff.1 hk).1).trans hk⟩
theorem KeepsFrom.drew' {B : Nat} (W : World) : KeepsFrom B W W.drew := ⟨Nat.le_refl _, fun k o hB hk _ => hk⟩
theorem RdI.step {w0 W : World} {g cap k c d c' : Nat} {FV AA BB : Value} {ds : List Nat} (h : RdI w0 g cap FV AA BB ds k c W) (hd : ds.length = k) (hk : k + 1 ≤ cap) (o : Obj) {B : Nat} (hB : g + 2 < B) :
  KeepsFrom B W ((((W.drew.setCell ⟨g + 1 + 1, 0, none⟩ (.int .u64 (c' : Int))).alloc o).setCell ⟨g, k, none⟩ (.int .u32 (d : Int))).setCell ⟨g + 1, 0, none⟩ (.slice (some ⟨g, 0, none⟩) (k + 1) cap)) ∧
  KpB g (g + 1 + 1 + 1 + 1) (g + 1 + 1 + 1 + 1 + 1) W ((((W.drew.setCell ⟨g + 1 + 1, 0, none⟩ (.int .u64 (c' : Int))).alloc o).setCell ⟨g, k, none⟩ (.int .u32 (d : Int))).setCell ⟨g + 1, 0, none⟩ (.slice (some ⟨g, 0, none⟩) (k + 1) cap)) ∧
  RdI w0 g cap FV AA BB (ds ++ [d]) (k + 1) c' ((((W.drew.setCell ⟨g + 1 + 1, 0, none⟩ (.int .u64 (c' : Int))).alloc o).setCell ⟨g, k, none⟩ (.int .u32 (d : Int))).setCell ⟨g + 1, 0, none⟩ (.slice (some ⟨g, 0, none⟩) (k + 1) cap)) := by
 obtain ⟨⟨b0, b1, b2, b3, b4, b5⟩, hb⟩ := h
 have far : ∀ {B : Nat} {t : TypeId} {cs : Array Value}, Blk W B t cs → B ≠ g → B ≠ g + 1 → B ≠ g + 1 + 1 → Blk ((((W.drew.setCell ⟨g + 1 + 1, 0, none⟩ (.int .u64 (c' : Int))).alloc o).setCell ⟨g, k, none⟩ (.int .u32 (d : Int))).setCell ⟨g + 1, 0, none⟩ (.slice (some ⟨g, 0, none⟩) (k + 1) cap)) B t cs := fun {B t cs} hx h0 h1 h2 =>
  Blk.far (Blk.far (Blk.alloc (Blk.far (Blk.drew hx) (p := ⟨g + 1 + 1, 0, none⟩) h2 _) o) (p := ⟨g, k, none⟩) h0 _) (p := ⟨g + 1, 0, none⟩) h1 _
 have f4 := far b4 (by omega) (by omega) (by omega)
 have f5 := far b5 (by omega) (by omega) (by omega)
 have hbl : Below g W ((((W.drew.setCell ⟨g + 1 + 1, 0, none⟩ (.int .u64 (c' : Int))).alloc o).setCell ⟨g, k, none⟩ (.int .u32 (d : Int))).setCell ⟨g + 1, 0, none⟩ (.slice (some ⟨g, 0, none⟩) (k + 1) cap)) :=
  Below.setCell (Below.setCell (Below.alloc (Below.setCell (Below.drew (Below.refl g W)) (p := ⟨g + 1 + 1, 0, none⟩) (by dsimp only; omega) _) (by have := b0.lt; simp only [World.size_setCell]; exact Nat.le_of_lt this) o) (p := ⟨g, k, none⟩) (Nat.le_refl _) _) (p := ⟨g + 1, 0, none⟩) (by dsimp only; omega) _
 refine ⟨?_, ⟨hbl, ?_, ?_⟩, ⟨?_, ?_, ?_, far b3 (by omega) (by omega) (by omega), f4, f5⟩, hb.trans hbl⟩
 ·exact KeepsFrom.trans (KeepsFrom.trans (KeepsFrom.trans (KeepsFrom.trans (KeepsFrom.drew' W) (KeepsFrom.set' _ _ (by dsimp only; omega))) (KeepsFrom.alloc' _ o)) (KeepsFrom.set' _ _ (by dsimp only; omega))) (KeepsFrom.set' _ _ (by dsimp only; omega))
 ·exact f4.trans (show W.heap[g + 1 + 1 + 1 + 1]? = _ from b4).symm
 ·exact f5.trans (show W.heap[g + 1 + 1 + 1 + 1 + 1]? = _ from b5).symm
 ·have := Blk.far (Blk.set (Blk.alloc (Blk.far (Blk.drew b0) (p := ⟨g + 1 + 1, 0, none⟩) (by dsimp only; omega) (.int .u64 (c' : Int))) o) k (.int .u32 (d : Int))) (p := ⟨g + 1, 0, none⟩) (by dsimp only; omega) (.slice (some ⟨g, 0, none⟩) (k + 1) cap)
  rwa [rowC_set hd hk] at this
 ·exact Blk.set (Blk.far (Blk.alloc (Blk.far (Blk.drew b1) (p := ⟨g + 1 + 1, 0, none⟩) (by dsimp only; omega) _) o) (p := ⟨g, k, none⟩) (by dsimp only; omega) _) 0 _
 ·exact Blk.far (Blk.far (Blk.alloc (Blk.set (Blk.drew b2) 0 _) o) (p := ⟨g, k, none⟩) (by dsimp only; omega) _) (p := ⟨g + 1, 0, none⟩) (by dsimp only; omega) _
/-- What a round of the sum reads. -/
theorem RdI.read {w0 W : World} {g cap k c : Nat} {FV AA BB : Value} {ds : List Nat} (h : RdI w0 g cap FV AA BB ds k c W) (hd : ds.length = k) (hk : k + 1 ≤ cap) (v1 v3 : Value) (o : Obj) :
  (W.cell? ⟨g + 1, 0, none⟩ = some (.slice (some ⟨g, 0, none⟩) k cap) ∧ W.cell? ⟨g + 1 + 1 + 1, 0, none⟩ = some FV) ∧
  ((W.setCell ⟨g + 1 + 1, 0, none⟩ v1).cell? ⟨g + 1, 0, none⟩ = some (.slice (some ⟨g, 0, none⟩) k cap) ∧ (W.setCell ⟨g + 1 + 1, 0, none⟩ v1).cell? ⟨g + 1 + 1 + 1, 0, none⟩ = some FV) ∧
  (((W.setCell ⟨g + 1 + 1, 0, none⟩ v1).alloc o).cell? ⟨g + 1, 0, none⟩ = some (.slice (some ⟨g, 0, none⟩) k cap) ∧ ((W.setCell ⟨g + 1 + 1, 0, none⟩ v1).alloc o).cell? ⟨g + 1 + 1 + 1, 0, none⟩ = some FV ∧ ((W.setCell ⟨g + 1 + 1, 0, none⟩ v1).alloc o).cell? ⟨g, k, none⟩ = some (.int .u32 0) ∧ ((W.setCell ⟨g + 1 + 1, 0, none⟩ v1).alloc o).frozen? ⟨g, k, none⟩ = false) ∧
  ((((W.setCell ⟨g + 1 + 1, 0, none⟩ v1).alloc o).setCell ⟨g, k, none⟩ v3).cell? ⟨g + 1, 0, none⟩ = some (.slice (some ⟨g, 0, none⟩) k cap) ∧ (((W.setCell ⟨g + 1 + 1, 0, none⟩ v1).alloc o).setCell ⟨g, k, none⟩ v3).frozen? ⟨g + 1, 0, none⟩ = false ∧ (((W.setCell ⟨g + 1 + 1, 0, none⟩ v1).alloc o).setCell ⟨g, k, none⟩ v3).cell? ⟨g + 1 + 1 + 1, 0, none⟩ = some FV) := by
 obtain ⟨⟨b0, b1, b2, b3, b4, b5⟩, hb⟩ := h
 have x1 := b1.far (p := ⟨g + 1 + 1, 0, none⟩) (by dsimp only; omega) v1
 have x3 := b3.far (p := ⟨g + 1 + 1, 0, none⟩) (by dsimp only; omega) v1
 have x0 := b0.far (p := ⟨g + 1 + 1, 0, none⟩) (by dsimp only; omega) v1
 have y1 := x1.alloc o
 have y3 := x3.alloc o
 have y0 := x0.alloc o
 have z1 := y1.far (p := ⟨g, k, none⟩) (by dsimp only; omega) v3
 have z3 := y3.far (p := ⟨g, k, none⟩) (by dsimp only; omega) v3
 exact ⟨⟨b1.cell 0, b3.cell 0⟩, ⟨x1.cell 0, x3.cell 0⟩, ⟨y1.cell 0, y3.cell 0, rowC_next y0 hd hk, y0.frozen k⟩, ⟨z1.cell 0, z1.frozen 0, z3.cell 0⟩⟩
theorem RdI.drew {w0 W : World} {g cap k c : Nat} {FV AA BB : Value} {ds : List Nat} (h : RdI w0 g cap FV AA BB ds k c W) : RdI w0 g cap FV AA BB ds k c W.drew := ⟨h.1, Below.drew h.2⟩
theorem OnlyN.mk {Q : Exit → Act → World → Prop} {a : Act} {w : World} (h : Q .normal a w) : OnlyN Q .normal a w := h

/-- The last word is laid, and a block above is closed. -/
theorem RdI.last {w0 W : World} {g m c d c' : Nat} {FV AA BB : Value} {ds : List Nat} (h : RdI w0 g (m + 1) FV AA BB ds m c W) (hd : ds.length = m) (o : Obj) {D : Nat} {o1 o2 : Obj} (hD : g + 5 < D) (hg : g = w0.heap.size) (hDW : W.heap[D]? = some o1) (h1 : o1.isCells = false) (h2 : o1.isWalk = false) :
  (((W.drew.setCell ⟨g + 1 + 1, 0, none⟩ (.int .u64 (c' : Int))).alloc o).setCell ⟨g, m, none⟩ (.int .u32 (d : Int))).heap[D]? = some o1 ∧
  Blk ((((W.drew.setCell ⟨g + 1 + 1, 0, none⟩ (.int .u64 (c' : Int))).alloc o).setCell ⟨g, m, none⟩ (.int .u32 (d : Int))).putObj D o2) g 59 (wcells (ds ++ [d])) ∧
  Below g w0 ((((W.drew.setCell ⟨g + 1 + 1, 0, none⟩ (.int .u64 (c' : Int))).alloc o).setCell ⟨g, m, none⟩ (.int .u32 (d : Int))).putObj D o2) := by
 obtain ⟨⟨b0, b1, b2, b3, b4, b5⟩, hb⟩ := h
 have hDs := (Array.getElem?_eq_some_iff.1 hDW).1
 have e1 : (W.drew.setCell ⟨g + 1 + 1, 0, none⟩ (.int .u64 (c' : Int))).heap[D]? = some o1 := (Below.heap_setCell _ ⟨g + 1 + 1, 0, none⟩ _ D (show D ≠ g + 1 + 1 by omega)).trans hDW
 have e2 : ((W.drew.setCell ⟨g + 1 + 1, 0, none⟩ (.int .u64 (c' : Int))).alloc o).heap[D]? = some o1 := (Below.heap_alloc _ o D (by rw [World.size_setCell]; exact hDs)).trans e1
 have e3 : (((W.drew.setCell ⟨g + 1 + 1, 0, none⟩ (.int .u64 (c' : Int))).alloc o).setCell ⟨g, m, none⟩ (.int .u32 (d : Int))).heap[D]? = some o1 := (Below.heap_setCell _ ⟨g, m, none⟩ _ D (show D ≠ g by omega)).trans e2
 have x0 := Blk.set (Blk.alloc (Blk.far (Blk.drew b0) (p := ⟨g + 1 + 1, 0, none⟩) (by dsimp only; omega) (.int .u64 (c' : Int))) o) m (.int .u32 (d : Int))
 rw [rowC_set hd (Nat.le_refl _)] at x0
 have er : rowC (m + 1) (ds ++ [d]) = wcells (ds ++ [d]) := by
  unfold rowC wcells
  rw [show m + 1 - (ds ++ [d]).length = 0 by simp [hd]]
  simp
 rw [er] at x0
 have hbl : Below g W (((W.drew.setCell ⟨g + 1 + 1, 0, none⟩ (.int .u64 (c' : Int))).alloc o).setCell ⟨g, m, none⟩ (.int .u32 (d : Int))) :=
  Below.setCell (Below.alloc (Below.setCell (Below.drew (Below.refl g W)) (p := ⟨g + 1 + 1, 0, none⟩) (by dsimp only; omega) _) (by have := b0.lt; simp only [World.size_setCell]; exact Nat.le_of_lt this) o) (p := ⟨g, m, none⟩) (Nat.le_refl _) _
 have hp : Below w0.heap.size (((W.drew.setCell ⟨g + 1 + 1, 0, none⟩ (.int .u64 (c' : Int))).alloc o).setCell ⟨g, m, none⟩ (.int .u32 (d : Int))) ((((W.drew.setCell ⟨g + 1 + 1, 0, none⟩ (.int .u64 (c' : Int))).alloc o).setCell ⟨g, m, none⟩ (.int .u32 (d : Int))).putObj D o2) :=
  belowK_b (w := w0) (Nat.le_refl _) _ D o1 o2 (by omega) e3 h1 h2
 refine ⟨e3, ?_, (hb.trans hbl).trans (hp.mono (by omega))⟩
 have hblk : ∀ X : World, Blk X g 59 (wcells (ds ++ [d])) → Blk (X.putObj D o2) g 59 (wcells (ds ++ [d])) := fun X hX => by
  unfold Blk at hX ⊢
  simp only [World.putObj]
  rw [← hX]
  simp [Array.getElem?_setIfInBounds, Array.set!_eq_setIfInBounds, show D ≠ g by omega]
 exact hblk _ x0
/-- What the end of the sum reads. -/
theorem RdI.readN {w0 W : World} {g cap k c : Nat} {FV AA BB : Value} {ds : List Nat} (h : RdI w0 g cap FV AA BB ds k c W) (hd : ds.length = k) (hk : k + 1 ≤ cap) (v1 v3 : Value) (o : Obj) :
  (W.cell? ⟨g + 1, 0, none⟩ = some (.slice (some ⟨g, 0, none⟩) k cap) ∧ W.cell? ⟨g + 1 + 1 + 1, 0, none⟩ = some FV) ∧
  ((W.setCell ⟨g + 1 + 1, 0, none⟩ v1).cell? ⟨g + 1, 0, none⟩ = some (.slice (some ⟨g, 0, none⟩) k cap) ∧ (W.setCell ⟨g + 1 + 1, 0, none⟩ v1).cell? ⟨g + 1 + 1 + 1, 0, none⟩ = some FV) ∧
  ((((W.setCell ⟨g + 1 + 1, 0, none⟩ v1).alloc o).cell? ⟨g + 1, 0, none⟩ = some (.slice (some ⟨g, 0, none⟩) k cap) ∧ ((W.setCell ⟨g + 1 + 1, 0, none⟩ v1).alloc o).cell? ⟨g + 1 + 1 + 1, 0, none⟩ = some FV) ∧ ((W.setCell ⟨g + 1 + 1, 0, none⟩ v1).alloc o).cell? ⟨g, k, none⟩ = some (.int .u32 0) ∧ ((W.setCell ⟨g + 1 + 1, 0, none⟩ v1).alloc o).frozen? ⟨g, k, none⟩ = false) ∧
  ((((W.setCell ⟨g + 1 + 1, 0, none⟩ v1).alloc o).setCell ⟨g, k, none⟩ v3).cell? ⟨g + 1, 0, none⟩ = some (.slice (some ⟨g, 0, none⟩) k cap) ∧ (((W.setCell ⟨g + 1 + 1, 0, none⟩ v1).alloc o).setCell ⟨g, k, none⟩ v3).cell? ⟨g + 1 + 1 + 1, 0, none⟩ = some FV) := by
 obtain ⟨h1, h2, ⟨h3, h4, h5, h6⟩, h7, _, h8⟩ := h.read hd hk v1 v3 o
 exact ⟨h1, h2, ⟨⟨h3, h4⟩, h5, h6⟩, h7, h8⟩

end Go.Proofs.YtjajigkacccdgaaGreat
