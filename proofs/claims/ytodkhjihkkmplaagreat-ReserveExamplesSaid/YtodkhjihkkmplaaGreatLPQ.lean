/-
append onto rows of the call's own: the general part. Tools for Fill of package reserve: a row of ints, a world where two blocks alone turn, canonical rationals in memory. No statement of the seat is proved here; no conditions beyond those of each theorem.
-/
import Derived.Test.YtodkhjihkkmplaaGreatLPB
import Derived.Deep.AppendLies
import Derived.Deep.RegionLaw
import Derived.Laws.OwnMore
import Derived.Test.YtodkhjihkkmplaaGreatLRs3
import Derived.Test.YtodkhjihkkmplaaGreatLRs4
namespace Go.Proofs.YtodkhjihkkmplaaGreat
set_option linter.unusedVariables false
set_option linter.unusedSimpArgs false
open Go.RowKit
open Wd

/-- What is appended: the cells news, from A on. -/
def SrcAt (w : World) (A : Option Addr) (m size : Nat) (news : List Value) : Prop :=
 news.length = m * size ∧ (∀ u ∈ news, u.oneCell' = true) ∧ ((A = none ∧ m = 0) ∨ ∃ ad, A = some ad ∧ ∀ j u, news[j]? = some u → w.cell? (ad.add j) = some u)

/-- A row of the call's own, its value written out. -/
def Own (base : Nat) (e : TypeId) (size : Nat) (w : World) (A : Option Addr) (n c : Nat) (xs : List Value) : Prop := w.ownsRow base e size (.slice A n c) n xs
/-- Another block is as it was. -/
def Kept (w w' : World) (A : Option Addr) : Prop := w.heap.size ≤ w'.heap.size ∧ ∀ k, k < w.heap.size → A.map (fun a => a.block) ≠ some k → w'.heap[k]? = w.heap[k]?

theorem run_append_my {P : Program} {w : World} {base : Nat} {t ty e : TypeId} {i : TypeInfo} {z : Value} {size bytes : Nat} (ht : P.underlying t = some (.slice e)) (hi : P.info? e = some i) (hz : i.zero = some z)
  (hsize : i.size = size) (hby : i.bytes = bytes) (hzs : z.cells.size = size) (hsz : 0 < size)
  {B : Option Addr} {n cb : Nat} {xs : List Value} (hown : Own base e size w B n cb xs) {A : Option Addr} {m c : Nat} {news : List Value} (hs : SrcAt w A m size news)
  (h63 : n + m ≤ maxLen) (hbytes : (n + m) * bytes ≤ 140737488355328) (hbase : base ≤ w.heap.size) :
  ∃ B' cb' w', (Builtin.append_ #[t, t] ty #[.slice B n cb, .slice A m c]).run P w = .ok (.slice B' (n + m) cb') w' ∧ Own base e size w' B' (n + m) cb' (xs ++ news) ∧ Below base w w' ∧ Kept w w' B := by
 obtain ⟨h1, h2, h3⟩ := hs
 rcases h3 with ⟨rfl, rfl⟩ | ⟨ad, rfl, h3⟩
 ·have e1 : news = [] := List.eq_nil_of_length_eq_zero (by simpa using h1)
  subst e1
  refine ⟨B, cb, w, ?_, by simpa using hown, Below.refl _ _, Nat.le_refl _, fun _ _ _ => rfl⟩
  have hle : n ≤ cb := by
   rcases hown.2 with ⟨h4, _⟩ | ⟨g, cap, cur, h4, _, _, hnc, _⟩
   ·simp at h4; omega
   ·simp at h4; omega
  rcases hown.2 with ⟨h4, h5⟩ | ⟨g, cap, cur, h4, _, _, hnc, _⟩
  ·simp at h4
   obtain ⟨rfl, rfl, rfl⟩ := h4
   simp [Builtin.append_, run_underlying ht, sizeOf, typeInfo, hi, Builtin.lenOf, Builtin.firstCells]
  ·simp at h4
   obtain ⟨rfl, rfl⟩ := h4
   simp [Builtin.append_, run_underlying ht, sizeOf, typeInfo, hi, Builtin.lenOf, Builtin.firstCells, hnc, storeCells]
 ·obtain ⟨v', w', hr, ho, hg, _⟩ := run_append_own (P := P) w base t ty e i z size bytes ht hi hz hsize hby hzs hsz _ n xs hown ad m c news h1 h3 h2 h63 hbytes hbase
  have hB : Below base w w' := ⟨hg.os, hg.tape, hg.output, hg.size, fun k hk => hg.block k (by omega) fun he => by have := (hown.lt k he.symm).1; omega⟩
  have hK : Kept w w' B := ⟨hg.size, fun k hk hne => hg.block k hk fun he => hne (by
   cases B with
   | none => simp [Value.ownBlock] at he
   | some b => simpa [Value.ownBlock] using he.symm)⟩
  rcases ho.2 with ⟨rfl, h5⟩ | ⟨g, cap, cur, rfl, _⟩
  ·exact ⟨none, 0, w', by rw [hr, h5], by rw [h5] at ho ⊢; exact ho, hB, hK⟩
  ·exact ⟨some ⟨g, 0, none⟩, cap, w', hr, ho, hB, hK⟩

theorem wp_append_my {P : Program} {w : World} {o : Oper} {a : Act} {K : Act → World → Prop} {Q : Exit → Act → World → Prop} (s x : Operand) (t : TypeId)
  (ho : o.op = .call { callee := .builtin .append, args := #[s, x], argTypes := #[t, t] })
  {base : Nat} {e : TypeId} {i : TypeInfo} {z : Value} {size bytes : Nat} (ht : P.underlying t = some (.slice e)) (hi : P.info? e = some i) (hz : i.zero = some z)
  (hsize : i.size = size) (hby : i.bytes = bytes) (hzs : z.cells.size = size) (hsz : 0 < size)
  {B : Option Addr} {n cb : Nat} {xs : List Value} (hss : a.eval s = .slice B n cb) (hown : Own base e size w B n cb xs) {A : Option Addr} {m c : Nat} {news : List Value} (hx : a.eval x = .slice A m c) (hs : SrcAt w A m size news)
  (h63 : n + m ≤ maxLen) (hbytes : (n + m) * bytes ≤ 140737488355328) (hbase : base ≤ w.heap.size)
  (h : ∀ B' cb' w', Own base e size w' B' (n + m) cb' (xs ++ news) → Below base w w' → Kept w w' B → K (a.put o.dst (.slice B' (n + m) cb')) w') : o.wp P a w K Q := by
 obtain ⟨B', cb', w', hr, h2, h3, h4⟩ := run_append_my (P := P) (ty := o.type) (c := c) ht hi hz hsize hby hzs hsz hown hs h63 hbytes hbase
 unfold Oper.wp execOp
 simp only [ho, resolve, invoke, builtin, Sem.run_bind, Sem.run_pure, Result.andThen_ok, List.map_toArray, List.map_cons, List.map_nil, hss, hx, hr]
 exact h B' cb' w' h2 h3 h4

/-- At a step of a region that draws. -/
theorem step_append_my {P : Program} {w : World} {ops : Array Oper} {o : Oper} {a : Act} {K : Act → World → Prop} {Q : Exit → Act → World → Prop} {E : Prop} (hw : Region.wanted o (yielded ops a.tmps) = true) (s x : Operand) (t : TypeId)
  (ho : o.op = .call { callee := .builtin .append, args := #[s, x], argTypes := #[t, t] })
  {base : Nat} {e : TypeId} {i : TypeInfo} {z : Value} {size bytes : Nat} (ht : P.underlying t = some (.slice e)) (hi : P.info? e = some i) (hz : i.zero = some z)
  (hsize : i.size = size) (hby : i.bytes = bytes) (hzs : z.cells.size = size) (hsz : 0 < size)
  {B : Option Addr} {n cb : Nat} {xs : List Value} (hss : a.eval s = .slice B n cb) (hown : Own base e size w B n cb xs) {A : Option Addr} {m c : Nat} {news : List Value} (hx : a.eval x = .slice A m c) (hs : SrcAt w A m size news)
  (h63 : n + m ≤ maxLen) (hbytes : (n + m) * bytes ≤ 140737488355328) (hbase : base ≤ w.heap.size)
  (h : ∀ B' cb' w', Own base e size w' B' (n + m) cb' (xs ++ news) → Below base w w' → Kept w w' B → K (a.put o.dst (.slice B' (n + m) cb')) w') :
  if Region.wanted o (yielded ops a.tmps) = true then Oper.wp P o a w K Q else E := by
 rw [if_pos hw]
 exact wp_append_my s x t ho ht hi hz hsize hby hzs hsz hss hown hx hs h63 hbytes hbase h

theorem Own.keep {base : Nat} {e : TypeId} {size : Nat} {w w' : World} {A : Option Addr} {n c : Nat} {xs : List Value} (h : Own base e size w A n c xs) (hb : Below w.heap.size w w') : Own base e size w' A n c xs := by
 refine ⟨h.1, ?_⟩
 rcases h.2 with h2 | ⟨g, cap, cur, h2, h3, h4, h5⟩
 ·exact Or.inl h2
 ·exact Or.inr ⟨g, cap, cur, h2, h3, (hb.block g (Array.getElem?_eq_some_iff.1 h4).1).trans h4, h5⟩

theorem SrcAt.below {w w' : World} {A : Option Addr} {m size : Nat} {news : List Value} (h : SrcAt w A m size news) (hb : Below w.heap.size w w') : SrcAt w' A m size news := by
 refine ⟨h.1, h.2.1, ?_⟩
 rcases h.2.2 with h3 | ⟨ad, h3, h4⟩
 ·exact Or.inl h3
 ·exact Or.inr ⟨ad, h3, fun j u hu => (hb.cell (World.block_lt_of_cell? w _ (h4 j u hu))).trans (h4 j u hu)⟩
theorem slice_lo {P : Program} {t e : TypeId} (ht : P.underlying t = some (.slice e)) {i : TypeInfo} (hi : P.info? e = some i) (A : Option Addr) (n c j : Nat) (hj : j ≤ c) :
  ∃ A1, (∀ W, (Instr.sliceAt t (.slice A n c) none (some (.int .i64 (j : Int))) none).run P W = .ok (.slice A1 j c) W) ∧ ∀ b o, A = some ⟨b, o, none⟩ → A1 = some ⟨b, o, none⟩ := by
 refine ⟨if c = 0 then A else A.map (·.add 0), fun W => ?_, ?_⟩
 ·simp [Instr.sliceAt, Instr.slice, run_underlying ht, go_sem, hj, sizeOf, typeInfo, hi]
 ·rintro b o rfl
  simp [addr_add]



theorem Blk.src {w : World} {g : Nat} {t : TypeId} {cs : Array Value} {m size : Nat} (h : Blk w g t cs) (hs : cs.size = m * size) (h1 : ∀ u ∈ cs.toList, u.oneCell' = true) : SrcAt w (some ⟨g, 0, none⟩) m size cs.toList :=
 ⟨by simpa using hs, h1, Or.inr ⟨_, rfl, World.news_of_block h⟩⟩

theorem Own.nil (base : Nat) (e : TypeId) (size : Nat) (w : World) : Own base e size w none 0 0 [] := ⟨by simp, Or.inl ⟨rfl, rfl⟩⟩



/-- At a step of a list of operations. -/
theorem wpList_append_my {P : Program} {w : World} {ops : Array Oper} {rest : List Oper} {o : Oper} {a : Act} {Q : Exit → Act → World → Prop} (hg : o.guard = none) (s x : Operand) (t : TypeId)
  (ho : o.op = .call { callee := .builtin .append, args := #[s, x], argTypes := #[t, t] })
  {base : Nat} {e : TypeId} {i : TypeInfo} {z : Value} {size bytes : Nat} (ht : P.underlying t = some (.slice e)) (hi : P.info? e = some i) (hz : i.zero = some z)
  (hsize : i.size = size) (hby : i.bytes = bytes) (hzs : z.cells.size = size) (hsz : 0 < size)
  {B : Option Addr} {n cb : Nat} {xs : List Value} (hss : a.eval s = .slice B n cb) (hown : Own base e size w B n cb xs) {A : Option Addr} {m c : Nat} {news : List Value} (hx : a.eval x = .slice A m c) (hs : SrcAt w A m size news)
  (h63 : n + m ≤ maxLen) (hbytes : (n + m) * bytes ≤ 140737488355328) (hbase : base ≤ w.heap.size)
  (h : ∀ B' cb' w', Own base e size w' B' (n + m) cb' (xs ++ news) → Below base w w' → Kept w w' B → wpList P ops Q rest (a.put o.dst (.slice B' (n + m) cb')) w') :
  wpList P ops Q (o :: rest) a w :=
 wpList_plain hg fun K hK => wp_append_my s x t ho ht hi hz hsize hby hzs hsz hss hown hx hs h63 hbytes hbase fun B' cb' w' h1 h2 h3 => hK _ _ (h B' cb' w' h1 h2 h3)

theorem Kp.alloc {W w' : World} (h : Kp W w') (o : Obj) : Kp W (w'.alloc o) := Below.alloc h (Below.size h) o


theorem getD_mem {α : Type} {l : List α} {k : Nat} {d : α} (h : k < l.length) : l[k]?.getD d ∈ l := by
 rw [List.getElem?_eq_getElem h]
 exact List.getElem_mem h
/-- A row of integers in a slice. -/
def IsAt (w : World) (A : Option Addr) (n : Nat) (xs : List Int) : Prop :=
 xs.length = n ∧ (n ≠ 0 → ∃ b o, A = some ⟨b, o, none⟩ ∧ b < w.heap.size ∧ ∀ j, j < n → w.cell? ⟨b, o + j, none⟩ = some (.int .i64 (xs[j]?.getD 0)))
theorem IsAt.below {w w' : World} {A : Option Addr} {n : Nat} {xs : List Int} (h : IsAt w A n xs) (hb : Below w.heap.size w w') : IsAt w' A n xs := by
 refine ⟨h.1, fun hn => ?_⟩
 obtain ⟨b, o, rfl, hlt, hc⟩ := h.2 hn
 exact ⟨b, o, rfl, Nat.lt_of_lt_of_le hlt hb.size, fun j hj => (hb.cell hlt).trans (hc j hj)⟩
theorem IsAt.src {w : World} {A : Option Addr} {n : Nat} {xs : List Int} (h : IsAt w A n xs) : SrcAt w A n 1 (xs.map (Value.int .i64)) := by
 refine ⟨by simp [h.1], fun u hu => by obtain ⟨x, _, rfl⟩ := List.mem_map.1 hu; rfl, ?_⟩
 by_cases hn : n = 0
 ·subst hn
  have e : xs = [] := List.eq_nil_of_length_eq_zero h.1
  subst e
  cases A with
  | none => exact Or.inl ⟨rfl, rfl⟩
  | some ad => exact Or.inr ⟨ad, rfl, by simp⟩
 ·obtain ⟨b, o, rfl, hlt, hc⟩ := h.2 hn
  refine Or.inr ⟨_, rfl, fun j u hu => ?_⟩
  have hj : j < xs.length := by
   have := (List.getElem?_eq_some_iff.1 hu).1
   simpa using this
  rw [addr_add, hc j (by have := h.1; omega), ← hu]
  simp [hj]
theorem Own.ints {base : Nat} {e : TypeId} {w : World} {A : Option Addr} {n c : Nat} {xs : List Int} (h : Own base e 1 w A n c (xs.map (Value.int .i64))) : IsAt w A n xs := by
 have hl : xs.length = n := by have := h.1; simpa using this
 refine ⟨hl, fun hn => ?_⟩
 obtain ⟨g, cap, hv, hb, hlt⟩ := World.ownsRow.form h (by omega)
 simp at hv
 obtain ⟨rfl, rfl⟩ := hv
 refine ⟨g, 0, rfl, hlt, fun j hj => ?_⟩
 rw [Nat.zero_add, World.ownsRow.cellAt h j (by omega)]
 simp [show j < xs.length by omega]








theorem made_ints (n : Nat) : madeCells #[.int .i64 0] n = ((List.replicate n (0 : Int)).map (Value.int .i64)).toArray := by
 apply Array.ext
 ·simp [size_madeCells]
 ·intro i h1 h2
  simp [madeCells, Nat.mod_one]
end Go.Proofs.YtodkhjihkkmplaaGreat
namespace Go.Proofs.YtodkhjihkkmplaaGreat
open Go.RowKit
open Wd
/-- A block of ints. -/
def ORow (w : World) (g : Nat) (xs : List Int) : Prop := Blk w g 3 (xs.map (Value.int .i64)).toArray
theorem ORow.cell {w : World} {g : Nat} {xs : List Int} (h : ORow w g xs) {i : Nat} (hi : i < xs.length) : w.cell? ⟨g, i, none⟩ = some (.int .i64 (xs[i]?.getD 0)) := by
 rw [Blk.cell h i]
 simp [hi]
theorem ORow.frozen {w : World} {g : Nat} {xs : List Int} (h : ORow w g xs) (i : Nat) : w.frozen? ⟨g, i, none⟩ = false := Blk.frozen h i
theorem ORow.set {w : World} {g : Nat} {xs : List Int} (h : ORow w g xs) (i : Nat) (v : Int) : ORow (w.setCell ⟨g, i, none⟩ (.int .i64 v)) g (xs.set i v) := by
 have := Blk.set h i (.int .i64 v)
 unfold ORow
 simpa [List.map_set] using this

theorem run_make_order (k : Nat) (hk : k ≤ 1000000000) (w : World) :
  (Instr.makeSlice 66 (.int .i64 (k : Int)) (.int .i64 (k : Int))).run Tryz.prog w = .ok (.slice (some ⟨w.heap.size, 0, none⟩) k k) (w.alloc (.cells ((List.replicate k (0 : Int)).map (Value.int .i64)).toArray 3)) := by
 obtain ⟨i0, hi, hz0, hz1, hz2⟩ := info_parts (show (Tryz.prog.info? 3).map (fun i => (i.zero, i.size, i.bytes)) = some (some (.int .i64 0), 1, 8) by kernel_rfl)
 have h := run_make (P := Tryz.prog) w 66 3 i0 _ Tryz.underlying66 hi hz0 .i64 .i64 k k (by omega) (Int.le_refl _) (by rw [hz2]; omega) (by omega)
 rw [h, hz1]
 simp only [Int.toNat_natCast, Value.cells, Nat.mul_one]
 rw [made_ints]

/-- All blocks but g1 and g2 are as in W. -/
def Rk2 (g1 g2 : Nat) (W w' : World) : Prop := w'.os = W.os ∧ w'.tape = W.tape ∧ w'.output = W.output ∧ W.heap.size ≤ w'.heap.size ∧ ∀ k, k < W.heap.size → k ≠ g1 → k ≠ g2 → w'.heap[k]? = W.heap[k]?
section
variable {g1 g2 : Nat} {W w w' : World}
theorem Rk2.refl : Rk2 g1 g2 W W := ⟨rfl, rfl, rfl, Nat.le_refl _, fun _ _ _ _ => rfl⟩
theorem Rk2.call (h : Rk2 g1 g2 W w) (hb : Below w.heap.size w w') : Rk2 g1 g2 W w' :=
 ⟨hb.os.trans h.1, hb.tape.trans h.2.1, hb.output.trans h.2.2.1, Nat.le_trans h.2.2.2.1 hb.size, fun k hk h1 h2 => (hb.block k (Nat.lt_of_lt_of_le hk h.2.2.2.1)).trans (h.2.2.2.2 k hk h1 h2)⟩
theorem Rk2.put {g o : Nat} {a b : Bool} {A A' : Option Addr} {k c k' c' : Nat} (h : Rk2 g1 g2 W w) (hg : g = g1 ∨ g = g2 ∨ W.heap.size ≤ g) : Rk2 g1 g2 W (qst w g o a b A A' k c k' c') := by
 refine ⟨h.1, h.2.1, h.2.2.1, by rw [size_qst]; exact h.2.2.2.1, fun j hj h1 h2 => ?_⟩
 have hjg : j ≠ g := by omega
 unfold qst
 rw [Below.heap_setCell _ _ _ _ (by simpa using hjg), Below.heap_setCell _ _ _ _ (by simpa using hjg), Below.heap_setCell _ _ _ _ (by simpa using hjg), Below.heap_setCell _ _ _ _ (by simpa using hjg)]
 exact h.2.2.2.2 j hj h1 h2
theorem Rk2.blk {g : Nat} {t : TypeId} {cs : Array Value} (h : Rk2 g1 g2 W w) (hb : Blk W g t cs) (h1 : g ≠ g1) (h2 : g ≠ g2) : Blk w g t cs := (h.2.2.2.2 g hb.lt h1 h2).trans hb
theorem Rk2.cell (h : Rk2 g1 g2 W w) {p : Addr} (hp : p.block < W.heap.size) (h1 : p.block ≠ g1) (h2 : p.block ≠ g2) : w.cell? p = W.cell? p := World.cell?_of_block (w := W) (h.2.2.2.2 p.block hp h1 h2)
theorem Rk2.below {B : Nat} {w0 : World} (h : Rk2 g1 g2 W w) (hb : Below B w0 W) (h1 : B ≤ g1) (h2 : B ≤ g2) (hB : B ≤ W.heap.size) : Below B w0 w :=
 ⟨h.1.trans hb.os, h.2.1.trans hb.tape, h.2.2.1.trans hb.output, Nat.le_trans hb.size h.2.2.2.1, fun k hk => (h.2.2.2.2 k (by omega) (by omega) (by omega)).trans (hb.block k hk)⟩
end

theorem kp_set4 {W w : World} {g : Nat} (h : Kp W w) (hg : W.heap.size ≤ g) (a b c d : Value) : Kp W ((((w.setCell ⟨g, 0, none⟩ a).setCell ⟨g, 1, none⟩ b).setCell ⟨g, 2, none⟩ c).setCell ⟨g, 3, none⟩ d) :=
 (((Below.setCell (p := ⟨g, 0, none⟩) h hg _).setCell (p := ⟨g, 1, none⟩) hg _).setCell (p := ⟨g, 2, none⟩) hg _).setCell (p := ⟨g, 3, none⟩) hg _

/-- The canonical rational q lies in two slices. -/
def RQ (w : World) (q : Rat) (A : Option Addr) (k c : Nat) (A' : Option Addr) (k' c' : Nat) : Prop := k ≤ c ∧ k' ≤ c' ∧ Wat w A k (digs q.num.natAbs) ∧ Wat w A' k' (denW q.den)
section
variable {w w' : World} {q : Rat} {A A' : Option Addr} {k c k' c' : Nat}
theorem RQ.below (h : RQ w q A k c A' k' c') (hb : Below w.heap.size w w') : RQ w' q A k c A' k' c' := ⟨h.1, h.2.1, h.2.2.1.below hb, h.2.2.2.below hb⟩
theorem RQ.put4 {g o : Nat} {a b : Bool} {B B' : Option Addr} {j d j' d' : Nat} {t : TypeId} {cs : Array Value} (h : RQ w q A k c A' k' c') (hb : Blk w g t cs) (hn : NoInt cs) : RQ (qst w g o a b B B' j d j' d') q A k c A' k' c' :=
 ⟨h.1, h.2.1, h.2.2.1.put4 hb hn, h.2.2.2.put4 hb hn⟩
theorem RQ.qk {K : Nat} (h : RQ w q A k c A' k' c') (hq : Lv K q) (hk : K ≤ 18) : QK K w (decide (q.num < 0)) A k c false A' k' c' q := wat_qk h.1 h.2.1 h.2.2.1 h.2.2.2 hq hk
end
end Go.Proofs.YtodkhjihkkmplaaGreat