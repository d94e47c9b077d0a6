/-
append onto rows of the call's own, with the block of the result. A row of rationals that is appended to. The reference of layer 24: Same. Cost of package stack at a whole quantity. Share of package stack at a quantity above the total, and of the empty stack. No statement of the seat is proved here; no conditions beyond those of each theorem.
-/
import Derived.Test.YtjajigkacccdgaaGreatTdAY
import Derived.Maps.AppendAt
import Derived.Test.YtjajigkacccdgaaGreatTdBL
import Derived.Test.YtjajigkacccdgaaGreatTdBE
import Derived.Test.YtjajigkacccdgaaGreatTdBJ
namespace Go.Proofs.YtjajigkacccdgaaGreat
set_option linter.unusedVariables false
set_option linter.unusedSimpArgs false
open Go.RowKit
open Wd

/-- The block of B' is that of B or new at w. -/
def SameOr (w : World) (B B' : Option Addr) : Prop := B'.map (fun a => a.block) = B.map (fun a => a.block) ∨ B'.map (fun a => a.block) = some w.heap.size

theorem run_append_at {P : Program} {w : World} {base : Nat} {t ty e : TypeId} {i : TypeInfo} {z : Value} {size bytes : Nat} (ht : P.underlying t = some (.slice e)) (hi : P.info? e = some i) (hz : i.zero = some z)
  (hsize : i.size = size) (hby : i.bytes = bytes) (hzs : z.cells.size = size) (hsz : 0 < size)
  {B : Option Addr} {n cb : Nat} {xs : List Value} (hown : Own base e size w B n cb xs) {A : Option Addr} {m c : Nat} {news : List Value} (hs : SrcAt w A m size news)
  (h63 : n + m ≤ maxLen) (hbytes : (n + m) * bytes ≤ 140737488355328) (hbase : base ≤ w.heap.size) :
  ∃ B' cb' w', (Builtin.append_ #[t, t] ty #[.slice B n cb, .slice A m c]).run P w = .ok (.slice B' (n + m) cb') w' ∧ Own base e size w' B' (n + m) cb' (xs ++ news) ∧ Below base w w' ∧ Kept w w' B ∧ SameOr w B B' := by
 obtain ⟨h1, h2, h3⟩ := hs
 rcases h3 with ⟨rfl, rfl⟩ | ⟨ad, rfl, h3⟩
 ·have e1 : news = [] := List.eq_nil_of_length_eq_zero (by simpa using h1)
  subst e1
  refine ⟨B, cb, w, ?_, by simpa using hown, Below.refl _ _, ⟨Nat.le_refl _, fun _ _ _ => rfl⟩, Or.inl rfl⟩
  have hle : n ≤ cb := by
   rcases hown.2 with ⟨h4, _⟩ | ⟨g, cap, cur, h4, _, _, hnc, _⟩
   ·simp at h4; omega
   ·simp at h4; omega
  rcases hown.2 with ⟨h4, h5⟩ | ⟨g, cap, cur, h4, _, _, hnc, _⟩
  ·simp at h4
   obtain ⟨rfl, rfl, rfl⟩ := h4
   simp [Builtin.append_, run_underlying ht, sizeOf, typeInfo, hi, Builtin.lenOf, Builtin.firstCells]
  ·simp at h4
   obtain ⟨rfl, rfl⟩ := h4
   simp [Builtin.append_, run_underlying ht, sizeOf, typeInfo, hi, Builtin.lenOf, Builtin.firstCells, hnc, storeCells]
 ·obtain ⟨v', w', hr, ho, hg, _, hsame⟩ := run_append_own_at (P := P) (w := w) base t ty e i z size bytes ht hi hz hsize hby hzs hsz _ n xs hown ad m c news h1 h3 h2 h63 hbytes hbase
  have hB : Below base w w' := ⟨hg.os, hg.tape, hg.output, hg.size, fun k hk => hg.block k (by omega) fun he => by have := (hown.lt k he.symm).1; omega⟩
  have eo : ∀ X : Option Addr, ∀ a b, (Value.slice X a b).ownBlock = X.map (fun a => a.block) := fun X a b => by cases X <;> rfl
  have hK : Kept w w' B := ⟨hg.size, fun k hk hne => hg.block k hk fun he => hne (by rw [eo] at he; exact he.symm)⟩
  rcases ho.2 with ⟨rfl, h5⟩ | ⟨g, cap, cur, rfl, _⟩
  ·exact ⟨none, 0, w', by rw [hr, h5], by rw [h5] at ho ⊢; exact ho, hB, hK, by simpa [SameOr, eo] using hsame⟩
  ·exact ⟨some ⟨g, 0, none⟩, cap, w', hr, ho, hB, hK, by simpa [SameOr, eo] using hsame⟩

theorem wp_append_at {P : Program} {w : World} {o : Oper} {a : Act} {K : Act → World → Prop} {Q : Exit → Act → World → Prop} (s x : Operand) (t : TypeId)
  (ho : o.op = .call { callee := .builtin .append, args := #[s, x], argTypes := #[t, t] })
  {base : Nat} {e : TypeId} {i : TypeInfo} {z : Value} {size bytes : Nat} (ht : P.underlying t = some (.slice e)) (hi : P.info? e = some i) (hz : i.zero = some z)
  (hsize : i.size = size) (hby : i.bytes = bytes) (hzs : z.cells.size = size) (hsz : 0 < size)
  {B : Option Addr} {n cb : Nat} {xs : List Value} (hss : a.eval s = .slice B n cb) (hown : Own base e size w B n cb xs) {A : Option Addr} {m c : Nat} {news : List Value} (hx : a.eval x = .slice A m c) (hs : SrcAt w A m size news)
  (h63 : n + m ≤ maxLen) (hbytes : (n + m) * bytes ≤ 140737488355328) (hbase : base ≤ w.heap.size)
  (h : ∀ B' cb' w', Own base e size w' B' (n + m) cb' (xs ++ news) → Below base w w' → Kept w w' B → SameOr w B B' → K (a.put o.dst (.slice B' (n + m) cb')) w') : o.wp P a w K Q := by
 obtain ⟨B', cb', w', hr, h2, h3, h4, h5⟩ := run_append_at (P := P) (ty := o.type) (c := c) ht hi hz hsize hby hzs hsz hown hs h63 hbytes hbase
 unfold Oper.wp execOp
 simp only [ho, resolve, invoke, builtin, Sem.run_bind, Sem.run_pure, Result.andThen_ok, List.map_toArray, List.map_cons, List.map_nil, hss, hx, hr]
 exact h B' cb' w' h2 h3 h4 h5


/-- At a step of a list of operations. -/
theorem wpList_append_at {P : Program} {w : World} {ops : Array Oper} {rest : List Oper} {o : Oper} {a : Act} {Q : Exit → Act → World → Prop} (hg : o.guard = none) (s x : Operand) (t : TypeId)
  (ho : o.op = .call { callee := .builtin .append, args := #[s, x], argTypes := #[t, t] })
  {base : Nat} {e : TypeId} {i : TypeInfo} {z : Value} {size bytes : Nat} (ht : P.underlying t = some (.slice e)) (hi : P.info? e = some i) (hz : i.zero = some z)
  (hsize : i.size = size) (hby : i.bytes = bytes) (hzs : z.cells.size = size) (hsz : 0 < size)
  {B : Option Addr} {n cb : Nat} {xs : List Value} (hss : a.eval s = .slice B n cb) (hown : Own base e size w B n cb xs) {A : Option Addr} {m c : Nat} {news : List Value} (hx : a.eval x = .slice A m c) (hs : SrcAt w A m size news)
  (h63 : n + m ≤ maxLen) (hbytes : (n + m) * bytes ≤ 140737488355328) (hbase : base ≤ w.heap.size)
  (h : ∀ B' cb' w', Own base e size w' B' (n + m) cb' (xs ++ news) → Below base w w' → Kept w w' B → SameOr w B B' → wpList P ops Q rest (a.put o.dst (.slice B' (n + m) cb')) w') :
  wpList P ops Q (o :: rest) a w :=
 wpList_plain hg fun K hK => wp_append_at s x t ho ht hi hz hsize hby hzs hsz hss hown hx hs h63 hbytes hbase fun B' cb' w' h1 h2 h3 h4 => hK _ _ (h B' cb' w' h1 h2 h3 h4)

end Go.Proofs.YtjajigkacccdgaaGreat

namespace Go.Proofs.YtjajigkacccdgaaGreat
set_option linter.unusedVariables false
set_option linter.unusedSimpArgs false
open Go.RowKit
open Wd

/-- The words do not lie in the block of B. -/
def Off (B A : Option Addr) (k : Nat) : Prop := k ≠ 0 → ∃ b o, A = some ⟨b, o, none⟩ ∧ B.map (fun a => a.block) ≠ some b
theorem Off.fresh {base : Nat} {w : World} {A B : Option Addr} {k : Nat} (h : Fresh base w A k) (hB : ∀ b, B.map (fun a => a.block) = some b → b < base) : Off B A k := fun hk => by
 obtain ⟨b, o, rfl, hb, _⟩ := h hk
 exact ⟨b, o, rfl, fun he => by have := hB b he; omega⟩
theorem Wat.kept {w w' : World} {A B : Option Addr} {k : Nat} {l : List Nat} (h : Wat w A k l) (ho : Off B A k) (hk : Kept w w' B) : Wat w' A k l := by
 refine ⟨h.1, h.2.1, fun h0 => ?_⟩
 obtain ⟨b, o, rfl, hlt, hc⟩ := h.2.2 h0
 obtain ⟨b', o', he, hne⟩ := ho h0
 cases he
 refine ⟨b, o, rfl, Nat.lt_of_lt_of_le hlt hk.1, fun j hj => ?_⟩
 exact (World.cell?_of_block (hk.2 b hlt hne)).trans (hc j hj)
theorem Off.same {w : World} {A B B' : Option Addr} {k : Nat} {l : List Nat} (h : Wat w A k l) (ho : Off B A k) (hs : SameOr w B B') : Off B' A k := fun h0 => by
 obtain ⟨b, o, rfl, hlt, _⟩ := h.2.2 h0
 obtain ⟨b', o', he, hne⟩ := ho h0
 cases he
 refine ⟨b, o, rfl, fun hB => ?_⟩
 rcases hs with hs | hs
 ·exact hne (hs ▸ hB)
 ·rw [hs] at hB
  simp at hB
  omega
theorem Own.blk_lt {base : Nat} {e : TypeId} {size : Nat} {w : World} {A : Option Addr} {n c : Nat} {xs : List Value} (h : Own base e size w A n c xs) : ∀ b, A.map (fun a => a.block) = some b → b < w.heap.size := fun b hb => by
 rcases h.2 with ⟨h6, _⟩ | ⟨g', cap', cur', h6, _, h7, _⟩
 ·simp at h6
  rw [h6.1] at hb
  simp at hb
 ·simp at h6
  rw [h6.1] at hb
  simp at hb
  rw [← hb]
  exact (Array.getElem?_eq_some_iff.1 h7).1

/-- A rational in memory: its sign, where numerator and denominator lie. -/
abbrev QEnt := Bool × (Option Addr × Nat × Nat) × (Option Addr × Nat × Nat)
def QEnt0 : QEnt := (false, (none, 0, 0), (none, 0, 0))
def qCells (es : List QEnt) : List Value := es.flatMap fun e => [.bool e.1, .slice e.2.1.1 e.2.1.2.1 e.2.1.2.2, .bool false, .slice e.2.2.1 e.2.2.2.1 e.2.2.2.2]
theorem qCells_append (a b : List QEnt) : qCells (a ++ b) = qCells a ++ qCells b := by simp [qCells]
theorem qCells_cons (s : QEnt) (l : List QEnt) : qCells (s :: l) = .bool s.1 :: .slice s.2.1.1 s.2.1.2.1 s.2.1.2.2 :: .bool false :: .slice s.2.2.1 s.2.2.2.1 s.2.2.2.2 :: qCells l := by simp [qCells]
theorem qCells_len (l : List QEnt) : (qCells l).length = l.length * 4 := by
 induction l with
 | nil => rfl
 | cons s l ih => rw [qCells_cons]; simp [ih]; omega
theorem qCells_get : ∀ (l : List QEnt) (j : Nat), j < l.length → (qCells l)[j * 4]? = some (.bool (l[j]?.getD QEnt0).1) ∧ (qCells l)[j * 4 + 1]? = some (.slice (l[j]?.getD QEnt0).2.1.1 (l[j]?.getD QEnt0).2.1.2.1 (l[j]?.getD QEnt0).2.1.2.2) ∧ (qCells l)[j * 4 + 2]? = some (.bool false) ∧ (qCells l)[j * 4 + 3]? = some (.slice (l[j]?.getD QEnt0).2.2.1 (l[j]?.getD QEnt0).2.2.2.1 (l[j]?.getD QEnt0).2.2.2.2)
 | [], j, h => absurd h (by simp)
 | s :: l, 0, _ => by simp [qCells]
 | s :: l, j + 1, h => by
  have ih := qCells_get l j (by simpa using h)
  rw [qCells_cons, show (j + 1) * 4 = j * 4 + 1 + 1 + 1 + 1 by omega, show j * 4 + 1 + 1 + 1 + 1 + 1 = (j * 4 + 1) + 1 + 1 + 1 + 1 by omega, show j * 4 + 1 + 1 + 1 + 1 + 2 = (j * 4 + 2) + 1 + 1 + 1 + 1 by omega, show j * 4 + 1 + 1 + 1 + 1 + 3 = (j * 4 + 3) + 1 + 1 + 1 + 1 by omega]
  simp only [List.getElem?_cons_succ]
  exact ih
theorem qCells_one (l : List QEnt) : ∀ u ∈ qCells l, u.oneCell' = true := by
 intro u hu
 obtain ⟨s, _, h⟩ := List.mem_flatMap.1 hu
 simp at h
 rcases h with rfl | rfl | rfl | rfl <;> rfl

def QEnts (B : Option Addr) (ps : List Rat) (w : World) (i : Nat) (es : List QEnt) : Prop :=
 es.length = i ∧ ∀ j, j < i → (es[j]?.getD QEnt0).1 = decide ((ps[j]?.getD 0).num < 0) ∧ WQ w (ps[j]?.getD 0) (es[j]?.getD QEnt0).2.1.1 (es[j]?.getD QEnt0).2.1.2.1 (es[j]?.getD QEnt0).2.1.2.2 (es[j]?.getD QEnt0).2.2.1 (es[j]?.getD QEnt0).2.2.2.1 (es[j]?.getD QEnt0).2.2.2.2 ∧
  Off B (es[j]?.getD QEnt0).2.1.1 (es[j]?.getD QEnt0).2.1.2.1 ∧ Off B (es[j]?.getD QEnt0).2.2.1 (es[j]?.getD QEnt0).2.2.2.1
section
variable {B : Option Addr} {ps : List Rat} {w w' : World} {i : Nat} {es : List QEnt}
theorem QEnts.start : QEnts B ps w 0 [] := ⟨rfl, fun j hj => absurd hj (by omega)⟩
theorem QEnts.below (h : QEnts B ps w i es) (hb : Below w.heap.size w w') : QEnts B ps w' i es :=
 ⟨h.1, fun j hj => ⟨(h.2 j hj).1, (h.2 j hj).2.1.below hb, (h.2 j hj).2.2⟩⟩
theorem QEnts.app {B' : Option Addr} (h : QEnts B ps w i es) (hk : Kept w w' B) (hs : SameOr w B B') : QEnts B' ps w' i es := by
 refine ⟨h.1, fun j hj => ?_⟩
 obtain ⟨h1, ⟨h2, h3, h4, h5⟩, h6, h7⟩ := h.2 j hj
 exact ⟨h1, ⟨h2, h3, h4.kept h6 hk, h5.kept h7 hk⟩, Off.same h4 h6 hs, Off.same h5 h7 hs⟩
theorem QEnts.snoc {s : Bool} {A A' : Option Addr} {k c k' c' : Nat} (h : QEnts B ps w i es) (h1 : s = decide ((ps[i]?.getD 0).num < 0)) (h2 : WQ w (ps[i]?.getD 0) A k c A' k' c') (h3 : Off B A k) (h4 : Off B A' k') : QEnts B ps w (i + 1) (es ++ [(s, (A, k, c), (A', k', c'))]) := by
 have hl := h.1
 refine ⟨by simp [hl], fun j hj => ?_⟩
 by_cases hji : j < i
 ·rw [List.getElem?_append_left (by omega)]
  exact h.2 j hji
 ·obtain rfl : j = i := by omega
  rw [List.getElem?_append_right (by omega), hl, Nat.sub_self]
  exact ⟨h1, h2, h3, h4⟩
theorem Own.qs {base : Nat} {e : TypeId} {n c : Nat} (h : Own base e 4 w B n c (qCells es)) (hl : ps.length = n) (he : QEnts B ps w n es) : QsAt w B n ps := by
 refine ⟨hl, fun hn => ?_⟩
 have hel := he.1
 have hcl := qCells_len es
 obtain ⟨g, cap, hv, hb, hlt⟩ := World.ownsRow.form h (by omega)
 simp at hv
 obtain ⟨rfl, rfl⟩ := hv
 refine ⟨g, 0, rfl, hlt, fun j hj => ?_⟩
 obtain ⟨g1, g2, g3, g4⟩ := qCells_get es j (by omega)
 obtain ⟨e1, e2, _, _⟩ := he.2 j hj
 refine ⟨_, _, _, _, _, _, ?_, ?_, ?_, ?_, e2⟩
 ·rw [Nat.zero_add, World.ownsRow.cellAt h (j * 4) (by omega), g1, e1]
 ·rw [Nat.zero_add, World.ownsRow.cellAt h (j * 4 + 1) (by omega), g2]
 ·rw [Nat.zero_add, World.ownsRow.cellAt h (j * 4 + 2) (by omega), g3]
 ·rw [Nat.zero_add, World.ownsRow.cellAt h (j * 4 + 3) (by omega), g4]
end
theorem info_q : (Tryz.prog.info? 42).map (fun i => (i.zero, i.size, i.bytes)) = some (some (.agg #[.bool false, .slice none 0 0, .bool false, .slice none 0 0]), 4, 64) := by kernel_rfl

end Go.Proofs.YtjajigkacccdgaaGreat

namespace Go.Proofs.YtjajigkacccdgaaGreat
set_option linter.unusedVariables false
set_option linter.unusedSimpArgs false
open Go.RowKit
open Wd

set_option maxRecDepth 100000 in
set_option maxHeartbeats 4000000 in
theorem same24_yes (A B : Option Addr) (m n c d : Nat) (lv : List St.Lv) (w : World) (h : LvAt w A m n lv) (h' : LvAt w B m n lv) (hm : m ≤ 1000000) (hn : n ≤ 1000000) :
  Calls Tryz.prog 18 #[.slice A m c, .slice B m d] w fun e w' => e = .returned (.bool true) ∧ Below w.heap.size w w' := by
 have HX := Lib.hid h
 have HY := Lib.hid h'
 have hne : ((m : Int) != (m : Int)) = false := by simp
 have hne2 : ((n : Int) != (n : Int)) = false := by simp
 clear h h'
 go_enter Tryz.func18, Tryz.ntmps18
 go_wp2_with fail
 go_loopw [5] (fun t wr => ∃ k : Nat, k ≤ m ∧ t = .int .i64 k ∧ Hid (Below w.heap.size w wr)) (fun t _ => m - (intOf t).toNat)
 case atStart => exact ⟨0, Nat.zero_le _, rfl, Below.refl _ _⟩
 case round =>
  obtain ⟨k, hk, rfl, hB⟩ := hrel
  by_cases hlt : k < m
  ·obtain ⟨b, o, rfl, hb, hc⟩ := HX.out.2 (by omega)
   obtain ⟨b', o', rfl, hb', hc'⟩ := HY.out.2 (by omega)
   obtain ⟨A1, c1, ⟨e0, e1, e2⟩, hp⟩ := hc k hlt
   obtain ⟨B1, d1, ⟨f0, f1, f2⟩, hp'⟩ := hc' k hlt
   have hki1 : (0 : Int) ≤ (k : Int) := by omega
   have hki2 : (k : Int) < (m : Int) := by omega
   generalize (lv[k]?.getD Lv0).1 = pz at *
   generalize (lv[k]?.getD Lv0).2.1 = qz at *
   generalize (lv[k]?.getD Lv0).2.2 = xs at *
   have hcl : ∀ w', Below w.heap.size w w' → (w'.cell? ⟨b, o + k * 3, none⟩ = some (.int .i64 pz) ∧ w'.cell? ⟨b, o + k * 3 + 1, none⟩ = some (.int .i64 qz) ∧ w'.cell? ⟨b, o + k * 3 + 2, none⟩ = some (.slice A1 n c1)) ∧ w'.cell? ⟨b', o' + k * 3, none⟩ = some (.int .i64 pz) ∧ w'.cell? ⟨b', o' + k * 3 + 1, none⟩ = some (.int .i64 qz) ∧ w'.cell? ⟨b', o' + k * 3 + 2, none⟩ = some (.slice B1 n d1) := fun w' hk =>
    ⟨⟨(hk.cell (p := ⟨b, _, none⟩) hb).trans e0, (hk.cell (p := ⟨b, _, none⟩) hb).trans e1, (hk.cell (p := ⟨b, _, none⟩) hb).trans e2⟩, (hk.cell (p := ⟨b', _, none⟩) hb').trans f0, (hk.cell (p := ⟨b', _, none⟩) hb').trans f1, (hk.cell (p := ⟨b', _, none⟩) hb').trans f2⟩
   obtain ⟨⟨u0, u1, u2⟩, v0, v1, v2⟩ := hcl wr hB.out
   have HCL := Lib.hid hcl
   have HP := Lib.hid hp
   have HP' := Lib.hid hp'
   have n1 : (pz != pz) = false := by simp
   have n2 : (qz != qz) = false := by simp
   have HBD := Lib.hid (fun q => below_drewN hB.out q)
   clear hc hc' hp hp' e0 e1 e2 f0 f1 f2 hcl hB
   go_wp2_with fail
   go_quiet (fail)
   go_wp2_with fail
   go_loopw [6] (fun t wr2 => ∃ j : Nat, j ≤ n ∧ t = .int .i64 j ∧ Hid (Below w.heap.size w wr2)) (fun t _ => n - (intOf t).toNat)
   case atStart => exact ⟨0, Nat.zero_le _, rfl, HBD.out _⟩
   case round =>
    clear u0 u1 u2 v0 v1 v2 HBD
    rename_i wr2
    obtain ⟨j, hj, rfl, hB⟩ := hrel
    obtain ⟨⟨u0, u1, u2⟩, v0, v1, v2⟩ := HCL.out _ hB.out
    by_cases hjl : j < n
    ·obtain ⟨g, p, rfl, hg, hx⟩ := HP.out.2 (by omega)
     obtain ⟨g', p', rfl, hg', hx'⟩ := HP'.out.2 (by omega)
     have x1 := (hB.out.cell (p := ⟨g, p + j, none⟩) hg).trans (hx j hjl)
     have x2 := (hB.out.cell (p := ⟨g', p' + j, none⟩) hg').trans (hx' j hjl)
     generalize xs[j]?.getD 0 = x at *
     have n3 : (x != x) = false := by simp
     have hj1 : (0 : Int) ≤ (j : Int) := by omega
     have hj2 : (j : Int) < (n : Int) := by omega
     have HBD := Lib.hid (fun q => below_drewN hB.out q)
     clear hx hx' hB
     go_wp2_with fail
     go_quiet (fail)
     go_wp2_with fail
     go_roundw
     case rel => exact ⟨j + 1, by omega, by go_num, HBD.out _⟩
     case measure => simp [intOf]; omega
    ·obtain rfl : j = n := by omega
     have HBD := Lib.hid hB.out
     clear hB
     go_wp2_with fail
     go_roundw
     case rel => exact ⟨k + 1, by omega, by go_num, HBD.out⟩
     case measure => simp [intOf]; omega
  ·obtain rfl : k = m := by omega
   go_wp2
   go_ret
   exact ⟨rfl, hB.out⟩

end Go.Proofs.YtjajigkacccdgaaGreat

namespace Go.Proofs.YtjajigkacccdgaaGreat
set_option linter.unusedVariables false
set_option linter.unusedSimpArgs false
open Go.RowKit
open Wd

theorem prodI_bd2 {l : List (Int × Int)} {z : Int} (hok : OkQ l) (hpr : ∀ s ∈ l, -1000000 ≤ s.2 ∧ s.2 ≤ 1000000) (h0 : 0 ≤ z) {k : Nat} (hk : k < l.length) : (partI l z k * (l[k]?.getD (0, 0)).2).natAbs ≤ 16000000000000 := by
 have hr : ∀ k, k ≤ l.length → 0 ≤ restI l z k := by
  intro k
  induction k with
  | zero => intro _; exact h0
  | succ k ih =>
   intro hk
   have := ih (by omega)
   rw [restI]
   omega
 have ih := hr k (by omega)
 have hb := hok _ (getD_mem (d := (0, 0)) hk)
 have hp := hpr _ (getD_mem (d := (0, 0)) hk)
 rw [Int.natAbs_mul]
 have h2 : (partI l z k).natAbs ≤ 16000000 := by unfold partI; omega
 have h3 : (l[k]?.getD (0, 0)).2.natAbs ≤ 1000000 := by omega
 exact Nat.le_trans (Nat.mul_le_mul h2 h3) (by omega)
theorem costI_bd2 {l : List (Int × Int)} {z : Int} (hok : OkQ l) (hpr : ∀ s ∈ l, -1000000 ≤ s.2 ∧ s.2 ≤ 1000000) (h0 : 0 ≤ z) : ∀ k, k ≤ l.length → (costI l z k).natAbs ≤ 16000000000000 * k
 | 0, _ => by simp [costI]
 | k + 1, hk => by
  have ih := costI_bd2 hok hpr h0 k (by omega)
  have hp := prodI_bd2 hok hpr h0 (k := k) (by omega)
  rw [costI]
  omega
theorem VL.prI {up : Bool} {n : Nat} {lv : List St.Lv} (h : VL up n lv) : ∀ s ∈ lvQ lv, -1000000 ≤ s.2 ∧ s.2 ≤ 1000000 := fun s hs => by
 obtain ⟨x, hx, rfl⟩ := List.mem_map.1 hs
 exact h.price x hx
theorem costOK_stack {up : Bool} {n : Nat} {lv : List St.Lv} {z : Int} (hv : VL up n lv) (h0 : 0 ≤ z) : CostOK 4611686018427387904 2147483648 2 1152921504606846976 2 (lvQ lv) (z : Rat) := by
 have hl := hv.len
 have hl2 := lvQ_len lv
 refine ⟨by omega, by omega, by omega, by omega, by omega, by omega, by omega, by omega, by omega, by omega, by omega, by omega, fun k hk => ?_, fun k hk => ?_⟩
 ·have hb := costI_bd2 hv.okQ hv.prI h0 k hk
  rw [costAt_whole, Rat.num_intCast, Rat.den_intCast]
  omega
 ·have hb := prodI_bd2 hv.okQ hv.prI h0 hk
  rw [prod_whole, Rat.num_intCast, Rat.den_intCast]
  omega
theorem kcost_whole (up : Bool) (A : Option Addr) (m n c : Nat) (lv : List St.Lv) (z : Int) (aA aA' : Option Addr) (ak ac ak' ac' : Nat) (w : World) (h : LvAt w A m n lv) (hv : VL up n lv) (hq : WQ w (z : Rat) aA ak ac aA' ak' ac') (h0 : 0 ≤ z) (h1 : z ≤ totI lv) :
  Calls Tryz.prog 32 #[.slice A m c, .agg #[.bool (decide (((z : Int) : Rat).num < 0)), .slice aA ak ac, .bool false, .slice aA' ak' ac']] w (CstPost w ((costI (lvQ lv) z m : Int) : Rat)) := by
 have hz := (tot_bd lv hv.qty).2
 have hl := hv.len
 have hq2 : QAt 2147483648 2 w (decide (((z : Int) : Rat).num < 0)) aA ak ac false aA' ak' ac' (z : Rat) :=
  qat_len wok_small (by omega) (by omega) hq.1 hq.2.1 hq.2.2.1 hq.2.2.2 (by rw [Rat.num_intCast]; omega) (by rw [Rat.den_intCast]; omega)
 have hT := kcost_ok 4611686018427387904 2147483648 2 1152921504606846976 2 wok_small (by omega) up A m n c lv _ false aA aA' ak ac ak' ac' (z : Rat) w h hq2 hv (by exact_mod_cast h0) (by exact_mod_cast h1) (costOK_stack hv h0)
 rw [costAt_whole] at hT
 exact hT

end Go.Proofs.YtjajigkacccdgaaGreat

namespace Go.Proofs.YtjajigkacccdgaaGreat
set_option linter.unusedVariables false
set_option linter.unusedSimpArgs false
open Go.RowKit
open Wd

set_option maxRecDepth 100000 in
set_option maxHeartbeats 16000000 in
theorem fill_over (M Nn Nd : Nat) (HO : WOK M) (hM1 : 2 * (Nn * Nd) ≤ M) (hM2 : Nd * Nd ≤ M) (hnm : Nn ≤ M) (hdm : Nd ≤ M) (hN : 768000000 < Nn) (hN2 : Nn ≤ M) (hD : 1 < Nd)
  (up : Bool) (A : Option Addr) (n nn c : Nat) (lv : List St.Lv) (an an' : Bool) (aA aA' : Option Addr) (ak ac ak' ac' : Nat) (q : Rat) (w : World) (h : LvAt w A n nn lv) (hq : QAt Nn Nd w an aA ak ac an' aA' ak' ac' q)
  (hv : VL up nn lv) (h0 : 0 ≤ q) (h1 : ((totI lv : Int) : Rat) < q) :
  Calls Tryz.prog 84 #[.slice A n c, .agg #[.bool an, .slice aA ak ac, .bool an', .slice aA' ak' ac']] w
   (fun e w' => e = .returned (.tuple #[.slice none 0 0, .int .i64 1]) ∧ Below w.heap.size w w') := by
 have hln := h.1
 have hn : n ≤ 48 := by have := hv.len; omega
 have hbd := tot_bd lv hv.qty
 have hok := hv.okQ
 have hN3 : 16000000 < Nn := by omega
 have CC := fun W (hW : Below w.heap.size w W) => check_ok up A n nn c lv W (h.below hW) hv
 have SM := fun W (hW : Below w.heap.size w W) => total_ok up A n nn c lv W (h.below hW) hv
 have SG := fun W (hW : Below w.heap.size w W) => qsign_any an an' aA aA' ak ac ak' ac' q W (hq.below hW)
 have hsg : decide (sgnQ q < 0) = false := by
  have := Rat.num_nonneg.2 h0
  unfold sgnQ cmpI
  split
  ·omega
  ·split <;> simp
 have hcm : decide (0 < cmpQ q ((totI lv : Int) : Rat)) = true := by
  unfold cmpQ
  rw [if_neg (by grind), if_pos h1]
  simp
 have FI := fun W => qfromInt64_any (totI lv) W (by omega) (by omega)
 have hCM : ∀ W (hW : Below w.heap.size w W) (B B' : Option Addr) (k d k' d' : Nat), k ≤ d → k' ≤ d' → Wat W B k (digs ((totI lv : Int) : Rat).num.natAbs) → Wat W B' k' (denW ((totI lv : Int) : Rat).den) →
   Calls Tryz.prog 43 #[.agg #[.bool an, .slice aA ak ac, .bool an', .slice aA' ak' ac'], .agg #[.bool (decide (((totI lv : Int) : Rat).num < 0)), .slice B k d, .bool false, .slice B' k' d']] W fun e w' => e = .returned (.int .i64 (cmpQ q ((totI lv : Int) : Rat))) ∧ Below W.heap.size W w' := by
  intro W hW B B' k d k' d' hk hk' h5 h6
  refine qcmp_any (Nn := Nn) (Nd := Nd) an an' _ false aA aA' B B' ak ac ak' ac' k d k' d' q _ W (hq.below hW) (qat_canon hk hk' h5 h6 ?_ ?_ ?_ hD)
  ·rw [← h5.1, show ((totI lv : Int) : Rat).num = totI lv from rfl]
   exact Nat.le_trans (len_le_two (by omega)) (by omega)
  ·rw [← h6.1, show ((totI lv : Int) : Rat).den = 1 from rfl]; simp [denW]
  ·show (totI lv).natAbs < Nn; omega
 have HLN : Hid ((lvQ lv).length = n) := Lib.hid (by rw [lvQ_len]; exact hln)
 generalize sgnQ q = sq at *
 generalize cmpQ q ((totI lv : Int) : Rat) = cq at *
 generalize hqr : ((totI lv : Int) : Rat) = qs at *
 have hs1 : 0 ≤ totI lv := by omega
 have hs2 : totI lv ≤ 768000000 := by omega
 generalize totI lv = sl at *
 have CC := Lib.hid CC
 have SM := Lib.hid SM
 have SG := Lib.hid SG
 have FI := Lib.hid FI
 have HCM := Lib.hid hCM
 have HQ := Lib.hid hq
 have HST := Lib.hid h
 generalize hlq : lvQ lv = l at *
 have HLQ := Lib.hid hlq
 clear hlq hln
 clear hCM hbd hqr h h1 hv hq
 go_enter Tryz.func84, Tryz.ntmps84
 go_wp2_with fail
 obtain ⟨hB0, hBW, hsz⟩ := pre1 w 42 #[.bool an, .slice aA ak ac, .bool an', .slice aA' ak' ac']
 generalize w.alloc (.cells #[.bool an, .slice aA ak ac, .bool an', .slice aA' ak' ac'] 42) = W at *
 have HSZ := Lib.hid hsz
 clear hsz
 refine (CC.out W hBW).mono ?_
 rintro e w1 ⟨rfl, hb1⟩
 have hB0 := hB0.below hb1 hB0.lt
 have hBW : Below w.heap.size w w1 := hBW.trans (hb1.mono hBW.size)
 clear hb1 HSZ CC
 have hBK : ∀ w', Kp w1 w' → Below w.heap.size w w' := fun w' hk => hBW.trans (Below.mono hk hBW.size)
 have HBK := Lib.hid hBK
 clear hBK
 have s5 := Kp.refl w1
 go_wp2_with fail
 have hS : ∀ w', Kp w1 w' → (w'.cell? ⟨w.heap.size, 0, none⟩ = some (.bool an) ∧ w'.cell? ⟨w.heap.size, 1, none⟩ = some (.slice aA ak ac) ∧ w'.cell? ⟨w.heap.size, 2, none⟩ = some (.bool an') ∧ w'.cell? ⟨w.heap.size, 3, none⟩ = some (.slice aA' ak' ac')) ∧ Kp w1 w' := fun w' hk => ⟨⟨(hk.blk hB0).cell 0, (hk.blk hB0).cell 1, (hk.blk hB0).cell 2, (hk.blk hB0).cell 3⟩, hk⟩
 have HS := Lib.hid hS
 clear hS
 go_region_held3 (fun w' => (w'.cell? ⟨w.heap.size, 0, none⟩ = some (.bool an) ∧ w'.cell? ⟨w.heap.size, 1, none⟩ = some (.slice aA ak ac) ∧ w'.cell? ⟨w.heap.size, 2, none⟩ = some (.bool an') ∧ w'.cell? ⟨w.heap.size, 3, none⟩ = some (.slice aA' ak' ac')) ∧ Kp w1 w')
  (first | (with_reducible refine HS.out _ ?_; with_reducible assumption) | (with_reducible refine HS.out _ (Kp.drew ?_); with_reducible assumption) | (with_reducible refine' HS.out _ (Kp.drew (And.right ?_)); rotate_left; with_reducible assumption))
  (first
   | (go_at_call 57; have hk := And.right ‹_ ∧ Kp w1 _›; refine (SG.out _ (HBK.out _ hk)).mono ?_; rintro e v1 ⟨rfl, hb1⟩; have hr1 := hk.trans hb1; clear hb1)
   | (go_at_call 29; have hk := And.right ‹_ ∧ Kp w1 _›; refine (SM.out _ (HBK.out _ hk)).mono ?_; rintro e v2 ⟨rfl, hb2⟩; have hr2 := hk.trans hb2; clear hb2)
   | (go_at_call 40; have hk := And.right ‹_ ∧ Kp w1 _›; refine (FI.out _).mono ?_; rintro e v3 ⟨A3, k3, c3, A4, k4, c4, rfl, hk3, hk4, hW3, hW4, hF3, hF4, hb3⟩; have hr3 := hk.trans hb3; clear hb3)
   | (go_at_call 43; have hk := And.right ‹_ ∧ Kp w1 _›; refine (HCM.out _ (HBK.out _ hk) A3 A4 k3 c3 k4 c4 hk3 hk4 hW3 hW4).mono ?_; rintro e v4 ⟨rfl, hb4⟩; have hr4 := hk.trans hb4; clear hb4))
 rename_i hHeld
 have hB4 : Below w.heap.size w v4 := HBK.out _ hr4
 have HF := Lib.hid hB4
 clear hB4 hHeld hr1 hr2 hr3 hr4 hW3 hW4 hF3 hF4 HCM FI SG SM HBK
 go_wp2
 go_ret2
 exact ⟨rfl, HF.out⟩

set_option maxRecDepth 100000 in
set_option maxHeartbeats 4000000 in
theorem share_over (up : Bool) (A : Option Addr) (m n c : Nat) (lv : List St.Lv) (z : Int) (aA aA' : Option Addr) (ak ac ak' ac' : Nat) (w : World) (h : LvAt w A m n lv) (hv : VL up n lv) (hq : WQ w (z : Rat) aA ak ac aA' ak' ac') (h0 : 0 ≤ z) (h1 : totI lv < z) (h2 : z ≤ 1000000000000) :
  Calls Tryz.prog 31 #[.slice A m c, .agg #[.bool (decide (((z : Int) : Rat).num < 0)), .slice aA ak ac, .bool false, .slice aA' ak' ac']] w fun e w' => e = .returned (.tuple #[.slice none 0 0, .int .i64 1]) ∧ Below w.heap.size w w' := by
 have HF0 := Lib.hid (fun W (hW : Below w.heap.size w W) => fill_over 4611686018427387904 1152921504606846976 2 wok_small (by omega) (by omega) (by omega) (by omega) (by omega) (by omega) (by omega) up A m n c lv _ false aA aA' ak ac ak' ac' (z : Rat) W (h.below hW) ((hq.below hW).at (by rw [Rat.num_intCast]; omega) (by rw [Rat.den_intCast]; omega)) hv (by exact_mod_cast h0) (by exact_mod_cast h1))
 generalize ((z : Int) : Rat) = zq at *
 clear h hv hq h0 h1 h2
 go_enter Tryz.func31, Tryz.ntmps31
 go_wp2_with fail
 obtain ⟨hB0, hBW, hsz⟩ := pre1 w 42 #[.bool (decide (zq.num < 0)), .slice aA ak ac, .bool false, .slice aA' ak' ac']
 generalize w.alloc (.cells #[.bool (decide (zq.num < 0)), .slice aA ak ac, .bool false, .slice aA' ak' ac'] 42) = W at *
 have HSZ := Lib.hid hsz
 clear hsz
 refine (HF0.out W hBW).mono ?_
 rintro e w1 ⟨rfl, hb1⟩
 have HB1 := Lib.hid (hBW.trans (hb1.mono hBW.size))
 clear hb1 hBW
 go_wp2
 go_ret2
 exact ⟨rfl, HB1.out⟩

set_option maxRecDepth 100000 in
set_option maxHeartbeats 4000000 in
theorem share_nil (up : Bool) (A : Option Addr) (n c : Nat) (aA aA' : Option Addr) (ak ac ak' ac' : Nat) (w : World) (hn : n ≤ 16) (hq : WQ w ((0 : Int) : Rat) aA ak ac aA' ak' ac') :
  Calls Tryz.prog 31 #[.slice A 0 c, .agg #[.bool (decide (((0 : Int) : Rat).num < 0)), .slice aA ak ac, .bool false, .slice aA' ak' ac']] w fun e w' => e = .returned (.tuple #[.slice none 0 0, .int .i64 0]) ∧ Below w.heap.size w w' := by
 have hl : LvAt w A 0 n [] := ⟨rfl, fun h => absurd rfl h⟩
 have hv : VL up n [] := ⟨by simp, by simp, hn, by simp, by simp, by simp, by simp⟩
 have HF0 := Lib.hid (fun W (hW : Below w.heap.size w W) => fill_ok 4611686018427387904 1152921504606846976 2 wok_small (by omega) (by omega) (by omega) (by omega) (by omega) (by omega) (by omega) up A 0 n c [] _ false aA aA' ak ac ak' ac' ((0 : Int) : Rat) W (hl.below hW) ((hq.below hW).at (by rw [Rat.num_intCast]; omega) (by rw [Rat.den_intCast]; omega)) hv (by exact_mod_cast Int.le_refl 0) (Rat.le_refl))
 generalize ((0 : Int) : Rat) = zq at *
 clear hl hv hq
 go_enter Tryz.func31, Tryz.ntmps31
 go_wp2_with fail
 obtain ⟨hB0, hBW, hsz⟩ := pre1 w 42 #[.bool (decide (zq.num < 0)), .slice aA ak ac, .bool false, .slice aA' ak' ac']
 generalize w.alloc (.cells #[.bool (decide (zq.num < 0)), .slice aA ak ac, .bool false, .slice aA' ak' ac'] 42) = W at *
 have HSZ := Lib.hid hsz
 clear hsz
 refine (HF0.out W hBW).mono ?_
 rintro e w1 ⟨gt, ts, rfl, -, -, -, hb1⟩
 have HB1 := Lib.hid (hBW.trans (hb1.mono hBW.size))
 clear hb1 hBW
 go_wp2
 go_ret2
 exact ⟨rfl, HB1.out⟩

end Go.Proofs.YtjajigkacccdgaaGreat
