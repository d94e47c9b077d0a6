/-
append onto rows of the call's own: the general part. No statement of the seat is proved here; no conditions beyond those of each theorem.
-/
import Derived.Test.YtjajigkacccdgaaGreatTaAE
import Derived.Deep.AppendLies
import Derived.Deep.RegionLaw
import Derived.Laws.OwnMore
namespace Go.Proofs.YtjajigkacccdgaaGreat
set_option linter.unusedVariables false
set_option linter.unusedSimpArgs false
open Go.RowKit
open Wd

/-- What is appended: the cells news, from A on. -/
def SrcAt (w : World) (A : Option Addr) (m size : Nat) (news : List Value) : Prop :=
 news.length = m * size ∧ (∀ u ∈ news, u.oneCell' = true) ∧ ((A = none ∧ m = 0) ∨ ∃ ad, A = some ad ∧ ∀ j u, news[j]? = some u → w.cell? (ad.add j) = some u)

/-- A row of the call's own, its value written out. -/
def Own (base : Nat) (e : TypeId) (size : Nat) (w : World) (A : Option Addr) (n c : Nat) (xs : List Value) : Prop := w.ownsRow base e size (.slice A n c) n xs
/-- Another block is as it was. -/
def Kept (w w' : World) (A : Option Addr) : Prop := w.heap.size ≤ w'.heap.size ∧ ∀ k, k < w.heap.size → A.map (fun a => a.block) ≠ some k → w'.heap[k]? = w.heap[k]?

theorem run_append_my {P : Program} {w : World} {base : Nat} {t ty e : TypeId} {i : TypeInfo} {z : Value} {size bytes : Nat} (ht : P.underlying t = some (.slice e)) (hi : P.info? e = some i) (hz : i.zero = some z)
  (hsize : i.size = size) (hby : i.bytes = bytes) (hzs : z.cells.size = size) (hsz : 0 < size)
  {B : Option Addr} {n cb : Nat} {xs : List Value} (hown : Own base e size w B n cb xs) {A : Option Addr} {m c : Nat} {news : List Value} (hs : SrcAt w A m size news)
  (h63 : n + m ≤ maxLen) (hbytes : (n + m) * bytes ≤ 140737488355328) (hbase : base ≤ w.heap.size) :
  ∃ B' cb' w', (Builtin.append_ #[t, t] ty #[.slice B n cb, .slice A m c]).run P w = .ok (.slice B' (n + m) cb') w' ∧ Own base e size w' B' (n + m) cb' (xs ++ news) ∧ Below base w w' ∧ Kept w w' B := by
 obtain ⟨h1, h2, h3⟩ := hs
 rcases h3 with ⟨rfl, rfl⟩ | ⟨ad, rfl, h3⟩
 ·have e1 : news = [] := List.eq_nil_of_length_eq_zero (by simpa using h1)
  subst e1
  refine ⟨B, cb, w, ?_, by simpa using hown, Below.refl _ _, Nat.le_refl _, fun _ _ _ => rfl⟩
  have hle : n ≤ cb := by
   rcases hown.2 with ⟨h4, _⟩ | ⟨g, cap, cur, h4, _, _, hnc, _⟩
   ·simp at h4; omega
   ·simp at h4; omega
  rcases hown.2 with ⟨h4, h5⟩ | ⟨g, cap, cur, h4, _, _, hnc, _⟩
  ·simp at h4
   obtain ⟨rfl, rfl, rfl⟩ := h4
   simp [Builtin.append_, run_underlying ht, sizeOf, typeInfo, hi, Builtin.lenOf, Builtin.firstCells]
  ·simp at h4
   obtain ⟨rfl, rfl⟩ := h4
   simp [Builtin.append_, run_underlying ht, sizeOf, typeInfo, hi, Builtin.lenOf, Builtin.firstCells, hnc, storeCells]
 ·obtain ⟨v', w', hr, ho, hg, _⟩ := run_append_own (P := P) w base t ty e i z size bytes ht hi hz hsize hby hzs hsz _ n xs hown ad m c news h1 h3 h2 h63 hbytes hbase
  have hB : Below base w w' := ⟨hg.os, hg.tape, hg.output, hg.size, fun k hk => hg.block k (by omega) fun he => by have := (hown.lt k he.symm).1; omega⟩
  have hK : Kept w w' B := ⟨hg.size, fun k hk hne => hg.block k hk fun he => hne (by
   cases B with
   | none => simp [Value.ownBlock] at he
   | some b => simpa [Value.ownBlock] using he.symm)⟩
  rcases ho.2 with ⟨rfl, h5⟩ | ⟨g, cap, cur, rfl, _⟩
  ·exact ⟨none, 0, w', by rw [hr, h5], by rw [h5] at ho ⊢; exact ho, hB, hK⟩
  ·exact ⟨some ⟨g, 0, none⟩, cap, w', hr, ho, hB, hK⟩

theorem wp_append_my {P : Program} {w : World} {o : Oper} {a : Act} {K : Act → World → Prop} {Q : Exit → Act → World → Prop} (s x : Operand) (t : TypeId)
  (ho : o.op = .call { callee := .builtin .append, args := #[s, x], argTypes := #[t, t] })
  {base : Nat} {e : TypeId} {i : TypeInfo} {z : Value} {size bytes : Nat} (ht : P.underlying t = some (.slice e)) (hi : P.info? e = some i) (hz : i.zero = some z)
  (hsize : i.size = size) (hby : i.bytes = bytes) (hzs : z.cells.size = size) (hsz : 0 < size)
  {B : Option Addr} {n cb : Nat} {xs : List Value} (hss : a.eval s = .slice B n cb) (hown : Own base e size w B n cb xs) {A : Option Addr} {m c : Nat} {news : List Value} (hx : a.eval x = .slice A m c) (hs : SrcAt w A m size news)
  (h63 : n + m ≤ maxLen) (hbytes : (n + m) * bytes ≤ 140737488355328) (hbase : base ≤ w.heap.size)
  (h : ∀ B' cb' w', Own base e size w' B' (n + m) cb' (xs ++ news) → Below base w w' → Kept w w' B → K (a.put o.dst (.slice B' (n + m) cb')) w') : o.wp P a w K Q := by
 obtain ⟨B', cb', w', hr, h2, h3, h4⟩ := run_append_my (P := P) (ty := o.type) (c := c) ht hi hz hsize hby hzs hsz hown hs h63 hbytes hbase
 unfold Oper.wp execOp
 simp only [ho, resolve, invoke, builtin, Sem.run_bind, Sem.run_pure, Result.andThen_ok, List.map_toArray, List.map_cons, List.map_nil, hss, hx, hr]
 exact h B' cb' w' h2 h3 h4

/-- At a step of a region that draws. -/
theorem step_append_my {P : Program} {w : World} {ops : Array Oper} {o : Oper} {a : Act} {K : Act → World → Prop} {Q : Exit → Act → World → Prop} {E : Prop} (hw : Region.wanted o (yielded ops a.tmps) = true) (s x : Operand) (t : TypeId)
  (ho : o.op = .call { callee := .builtin .append, args := #[s, x], argTypes := #[t, t] })
  {base : Nat} {e : TypeId} {i : TypeInfo} {z : Value} {size bytes : Nat} (ht : P.underlying t = some (.slice e)) (hi : P.info? e = some i) (hz : i.zero = some z)
  (hsize : i.size = size) (hby : i.bytes = bytes) (hzs : z.cells.size = size) (hsz : 0 < size)
  {B : Option Addr} {n cb : Nat} {xs : List Value} (hss : a.eval s = .slice B n cb) (hown : Own base e size w B n cb xs) {A : Option Addr} {m c : Nat} {news : List Value} (hx : a.eval x = .slice A m c) (hs : SrcAt w A m size news)
  (h63 : n + m ≤ maxLen) (hbytes : (n + m) * bytes ≤ 140737488355328) (hbase : base ≤ w.heap.size)
  (h : ∀ B' cb' w', Own base e size w' B' (n + m) cb' (xs ++ news) → Below base w w' → Kept w w' B → K (a.put o.dst (.slice B' (n + m) cb')) w') :
  if Region.wanted o (yielded ops a.tmps) = true then Oper.wp P o a w K Q else E := by
 rw [if_pos hw]
 exact wp_append_my s x t ho ht hi hz hsize hby hzs hsz hss hown hx hs h63 hbytes hbase h

theorem Own.keep {base : Nat} {e : TypeId} {size : Nat} {w w' : World} {A : Option Addr} {n c : Nat} {xs : List Value} (h : Own base e size w A n c xs) (hb : Below w.heap.size w w') : Own base e size w' A n c xs := by
 refine ⟨h.1, ?_⟩
 rcases h.2 with h2 | ⟨g, cap, cur, h2, h3, h4, h5⟩
 ·exact Or.inl h2
 ·exact Or.inr ⟨g, cap, cur, h2, h3, (hb.block g (Array.getElem?_eq_some_iff.1 h4).1).trans h4, h5⟩

theorem SrcAt.below {w w' : World} {A : Option Addr} {m size : Nat} {news : List Value} (h : SrcAt w A m size news) (hb : Below w.heap.size w w') : SrcAt w' A m size news := by
 refine ⟨h.1, h.2.1, ?_⟩
 rcases h.2.2 with h3 | ⟨ad, h3, h4⟩
 ·exact Or.inl h3
 ·exact Or.inr ⟨ad, h3, fun j u hu => (hb.cell (World.block_lt_of_cell? w _ (h4 j u hu))).trans (h4 j u hu)⟩
theorem slice_lo {P : Program} {t e : TypeId} (ht : P.underlying t = some (.slice e)) {i : TypeInfo} (hi : P.info? e = some i) (A : Option Addr) (n c j : Nat) (hj : j ≤ c) :
  ∃ A1, (∀ W, (Instr.sliceAt t (.slice A n c) none (some (.int .i64 (j : Int))) none).run P W = .ok (.slice A1 j c) W) ∧ ∀ b o, A = some ⟨b, o, none⟩ → A1 = some ⟨b, o, none⟩ := by
 refine ⟨if c = 0 then A else A.map (·.add 0), fun W => ?_, ?_⟩
 ·simp [Instr.sliceAt, Instr.slice, run_underlying ht, go_sem, hj, sizeOf, typeInfo, hi]
 ·rintro b o rfl
  simp [addr_add]

theorem Own.made {base : Nat} {e : TypeId} {size : Nat} (w : World) (hb : base ≤ w.heap.size) : Own base e size (w.alloc (.cells #[] e)) (some ⟨w.heap.size, 0, none⟩) 0 0 [] :=
 World.ownsRow_made w #[] 0 hb (Nat.zero_le _) (by simp)

theorem Blk.src {w : World} {g : Nat} {t : TypeId} {cs : Array Value} {m size : Nat} (h : Blk w g t cs) (hs : cs.size = m * size) (h1 : ∀ u ∈ cs.toList, u.oneCell' = true) : SrcAt w (some ⟨g, 0, none⟩) m size cs.toList :=
 ⟨by simpa using hs, h1, Or.inr ⟨_, rfl, World.news_of_block h⟩⟩

theorem Own.nil (base : Nat) (e : TypeId) (size : Nat) (w : World) : Own base e size w none 0 0 [] := ⟨by simp, Or.inl ⟨rfl, rfl⟩⟩
theorem Own.far {base base' : Nat} {e e' : TypeId} {size size' : Nat} {w w' : World} {A B : Option Addr} {n c m d : Nat} {xs ys : List Value} (h : Own base e size w A n c xs) (h' : Own base' e' size' w B m d ys) (hne : e ≠ e') (hk : Kept w w' B) : Own base e size w' A n c xs := by
 refine ⟨h.1, ?_⟩
 rcases h.2 with h2 | ⟨g, cap, cur, h2, h3, h4, h5⟩
 ·exact Or.inl h2
 ·refine Or.inr ⟨g, cap, cur, h2, h3, (hk.2 g (Array.getElem?_eq_some_iff.1 h4).1 fun hB => ?_).trans h4, h5⟩
  rcases h'.2 with ⟨h6, _⟩ | ⟨g', cap', cur', h6, _, h7, _⟩
  ·simp at h6
   rw [h6.1] at hB
   simp at hB
  ·simp at h6
   rw [h6.1] at hB
   simp at hB
   rw [hB, h4] at h7
   simp at h7
   exact hne h7.2

theorem Own.aside {base : Nat} {e : TypeId} {size : Nat} {w : World} {A : Option Addr} {n c : Nat} {xs : List Value} (h : Own base e size w A n c xs) {p : Addr} (hp : p.block < base) (v : Value) : Own base e size (w.setCell p v) A n c xs := by
 refine ⟨h.1, ?_⟩
 rcases h.2 with h2 | ⟨g, cap, cur, h2, h3, h4, h5⟩
 ·exact Or.inl h2
 ·exact Or.inr ⟨g, cap, cur, h2, h3, Blk.far (t := e) (cs := cur) h4 (by omega) v, h5⟩

/-- At a step of a list of operations. -/
theorem wpList_append_my {P : Program} {w : World} {ops : Array Oper} {rest : List Oper} {o : Oper} {a : Act} {Q : Exit → Act → World → Prop} (hg : o.guard = none) (s x : Operand) (t : TypeId)
  (ho : o.op = .call { callee := .builtin .append, args := #[s, x], argTypes := #[t, t] })
  {base : Nat} {e : TypeId} {i : TypeInfo} {z : Value} {size bytes : Nat} (ht : P.underlying t = some (.slice e)) (hi : P.info? e = some i) (hz : i.zero = some z)
  (hsize : i.size = size) (hby : i.bytes = bytes) (hzs : z.cells.size = size) (hsz : 0 < size)
  {B : Option Addr} {n cb : Nat} {xs : List Value} (hss : a.eval s = .slice B n cb) (hown : Own base e size w B n cb xs) {A : Option Addr} {m c : Nat} {news : List Value} (hx : a.eval x = .slice A m c) (hs : SrcAt w A m size news)
  (h63 : n + m ≤ maxLen) (hbytes : (n + m) * bytes ≤ 140737488355328) (hbase : base ≤ w.heap.size)
  (h : ∀ B' cb' w', Own base e size w' B' (n + m) cb' (xs ++ news) → Below base w w' → Kept w w' B → wpList P ops Q rest (a.put o.dst (.slice B' (n + m) cb')) w') :
  wpList P ops Q (o :: rest) a w :=
 wpList_plain hg fun K hK => wp_append_my s x t ho ht hi hz hsize hby hzs hsz hss hown hx hs h63 hbytes hbase fun B' cb' w' h1 h2 h3 => hK _ _ (h B' cb' w' h1 h2 h3)

theorem Kp.alloc {W w' : World} (h : Kp W w') (o : Obj) : Kp W (w'.alloc o) := Below.alloc h (Below.size h) o
theorem Kp.set {W w' : World} (h : Kp W w') {p : Addr} (hp : W.heap.size ≤ p.block) (v : Value) : Kp W (w'.setCell p v) := Below.setCell h hp v
theorem Blk.three {w : World} {g : Nat} {t : TypeId} {a b c : Value} (h : Blk w g t #[a, b, c]) : w.cell? ⟨g, 0, none⟩ = some a ∧ w.cell? ⟨g, 1, none⟩ = some b ∧ w.cell? ⟨g, 2, none⟩ = some c := ⟨h.cell 0, h.cell 1, h.cell 2⟩
theorem getD_mem {α : Type} {l : List α} {k : Nat} {d : α} (h : k < l.length) : l[k]?.getD d ∈ l := by
 rw [List.getElem?_eq_getElem h]
 exact List.getElem_mem h
/-- A row of integers in a slice. -/
def IsAt (w : World) (A : Option Addr) (n : Nat) (xs : List Int) : Prop :=
 xs.length = n ∧ (n ≠ 0 → ∃ b o, A = some ⟨b, o, none⟩ ∧ b < w.heap.size ∧ ∀ j, j < n → w.cell? ⟨b, o + j, none⟩ = some (.int .i64 (xs[j]?.getD 0)))
theorem IsAt.below {w w' : World} {A : Option Addr} {n : Nat} {xs : List Int} (h : IsAt w A n xs) (hb : Below w.heap.size w w') : IsAt w' A n xs := by
 refine ⟨h.1, fun hn => ?_⟩
 obtain ⟨b, o, rfl, hlt, hc⟩ := h.2 hn
 exact ⟨b, o, rfl, Nat.lt_of_lt_of_le hlt hb.size, fun j hj => (hb.cell hlt).trans (hc j hj)⟩
theorem IsAt.src {w : World} {A : Option Addr} {n : Nat} {xs : List Int} (h : IsAt w A n xs) : SrcAt w A n 1 (xs.map (Value.int .i64)) := by
 refine ⟨by simp [h.1], fun u hu => by obtain ⟨x, _, rfl⟩ := List.mem_map.1 hu; rfl, ?_⟩
 by_cases hn : n = 0
 ·subst hn
  have e : xs = [] := List.eq_nil_of_length_eq_zero h.1
  subst e
  cases A with
  | none => exact Or.inl ⟨rfl, rfl⟩
  | some ad => exact Or.inr ⟨ad, rfl, by simp⟩
 ·obtain ⟨b, o, rfl, hlt, hc⟩ := h.2 hn
  refine Or.inr ⟨_, rfl, fun j u hu => ?_⟩
  have hj : j < xs.length := by
   have := (List.getElem?_eq_some_iff.1 hu).1
   simpa using this
  rw [addr_add, hc j (by have := h.1; omega), ← hu]
  simp [hj]
theorem Own.ints {base : Nat} {e : TypeId} {w : World} {A : Option Addr} {n c : Nat} {xs : List Int} (h : Own base e 1 w A n c (xs.map (Value.int .i64))) : IsAt w A n xs := by
 have hl : xs.length = n := by have := h.1; simpa using this
 refine ⟨hl, fun hn => ?_⟩
 obtain ⟨g, cap, hv, hb, hlt⟩ := World.ownsRow.form h (by omega)
 simp at hv
 obtain ⟨rfl, rfl⟩ := hv
 refine ⟨g, 0, rfl, hlt, fun j hj => ?_⟩
 rw [Nat.zero_add, World.ownsRow.cellAt h j (by omega)]
 simp [show j < xs.length by omega]
/-- A block of integers. -/
def IRow (w : World) (g : Nat) (xs : List Int) : Prop := Blk w g 2 (xs.map (Value.int .i64)).toArray
theorem IRow.cell {w : World} {g : Nat} {xs : List Int} (h : IRow w g xs) {i : Nat} (hi : i < xs.length) : w.cell? ⟨g, i, none⟩ = some (.int .i64 (xs[i]?.getD 0)) := by
 rw [Blk.cell h i]
 simp [hi]
theorem IRow.frozen {w : World} {g : Nat} {xs : List Int} (h : IRow w g xs) (i : Nat) : w.frozen? ⟨g, i, none⟩ = false := Blk.frozen h i
theorem IRow.set {w : World} {g : Nat} {xs : List Int} (h : IRow w g xs) (i : Nat) (v : Int) : IRow (w.setCell ⟨g, i, none⟩ (.int .i64 v)) g (xs.set i v) := by
 have := Blk.set h i (.int .i64 v)
 unfold IRow
 simpa [List.map_set] using this
theorem IRow.below {w w' : World} {g : Nat} {xs : List Int} (h : IRow w g xs) (hb : Below w.heap.size w w') : IRow w' g xs := Blk.below h hb (Blk.lt h)
theorem IRow.alloc {w : World} {g : Nat} {xs : List Int} (h : IRow w g xs) (o : Obj) : IRow (w.alloc o) g xs := Blk.alloc h o
theorem IRow.start (w : World) (n : Nat) : IRow (w.alloc (.cells (Array.replicate n (.int .i64 0)) 2)) w.heap.size (List.replicate n 0) := by
 unfold IRow
 have := Blk.new w 2 (Array.replicate n (.int .i64 0))
 simpa using this
theorem IRow.at {w : World} {g : Nat} {xs : List Int} {n : Nat} (h : IRow w g xs) (hl : xs.length = n) : IsAt w (some ⟨g, 0, none⟩) n xs :=
 ⟨hl, fun _ => ⟨g, 0, rfl, Blk.lt h, fun j hj => by rw [Nat.zero_add]; exact h.cell (by omega)⟩⟩

theorem made_ints (n : Nat) : madeCells #[.int .i64 0] n = ((List.replicate n (0 : Int)).map (Value.int .i64)).toArray := by
 apply Array.ext
 ·simp [size_madeCells]
 ·intro i h1 h2
  simp [madeCells, Nat.mod_one]
theorem info_int64 : (Tryz.prog.info? 2).map (fun i => (i.zero, i.size, i.bytes)) = some (some (.int .i64 0), 1, 8) := by kernel_rfl
theorem run_make_ints (k : Nat) (hk : k ≤ 1000000000) (w : World) :
  (Instr.makeSlice 62 (.int .i64 (k : Int)) (.int .i64 (k : Int))).run Tryz.prog w = .ok (.slice (some ⟨w.heap.size, 0, none⟩) k k) (w.alloc (.cells ((List.replicate k (0 : Int)).map (Value.int .i64)).toArray 2)) := by
 obtain ⟨i0, hi, hz0, hz1, hz2⟩ := info_parts info_int64
 have h := run_make (P := Tryz.prog) w 62 2 i0 _ Tryz.underlying62 hi hz0 .i64 .i64 k k (by omega) (Int.le_refl _) (by rw [hz2]; omega) (by omega)
 rw [h, hz1]
 simp only [Int.toNat_natCast, Value.cells, Nat.mul_one]
 rw [made_ints]

end Go.Proofs.YtjajigkacccdgaaGreat
