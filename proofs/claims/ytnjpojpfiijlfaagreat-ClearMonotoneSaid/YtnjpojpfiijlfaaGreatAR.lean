/-
append onto rows of the call's own, with the block of the result. No statement of the seat is proved here; no conditions beyond those of each theorem.
-/
import Derived.Test.YtnjpojpfiijlfaaGreatAQ
import Derived.Maps.AppendAt
namespace Go.Proofs.YtnjpojpfiijlfaaGreat
set_option linter.unusedVariables false
set_option linter.unusedSimpArgs false
open Go.RowKit
open Wd

/-- The block of B' is that of B or new at w. -/
def SameOr (w : World) (B B' : Option Addr) : Prop := B'.map (fun a => a.block) = B.map (fun a => a.block) ∨ B'.map (fun a => a.block) = some w.heap.size

theorem run_append_at {P : Program} {w : World} {base : Nat} {t ty e : TypeId} {i : TypeInfo} {z : Value} {size bytes : Nat} (ht : P.underlying t = some (.slice e)) (hi : P.info? e = some i) (hz : i.zero = some z)
    (hsize : i.size = size) (hby : i.bytes = bytes) (hzs : z.cells.size = size) (hsz : 0 < size)
    {B : Option Addr} {n cb : Nat} {xs : List Value} (hown : Own base e size w B n cb xs) {A : Option Addr} {m c : Nat} {news : List Value} (hs : SrcAt w A m size news)
    (h63 : n + m ≤ maxLen) (hbytes : (n + m) * bytes ≤ 140737488355328) (hbase : base ≤ w.heap.size) :
    ∃ B' cb' w', (Builtin.append_ #[t, t] ty #[.slice B n cb, .slice A m c]).run P w = .ok (.slice B' (n + m) cb') w' ∧ Own base e size w' B' (n + m) cb' (xs ++ news) ∧ Below base w w' ∧ Kept w w' B ∧ SameOr w B B' := by
  obtain ⟨h1, h2, h3⟩ := hs
  rcases h3 with ⟨rfl, rfl⟩ | ⟨ad, rfl, h3⟩
  · have e1 : news = [] := List.eq_nil_of_length_eq_zero (by simpa using h1)
    subst e1
    refine ⟨B, cb, w, ?_, by simpa using hown, Below.refl _ _, ⟨Nat.le_refl _, fun _ _ _ => rfl⟩, Or.inl rfl⟩
    have hle : n ≤ cb := by
      rcases hown.2 with ⟨h4, _⟩ | ⟨g, cap, cur, h4, _, _, hnc, _⟩
      · simp at h4; omega
      · simp at h4; omega
    rcases hown.2 with ⟨h4, h5⟩ | ⟨g, cap, cur, h4, _, _, hnc, _⟩
    · simp at h4
      obtain ⟨rfl, rfl, rfl⟩ := h4
      simp [Builtin.append_, run_underlying ht, sizeOf, typeInfo, hi, Builtin.lenOf, Builtin.firstCells]
    · simp at h4
      obtain ⟨rfl, rfl⟩ := h4
      simp [Builtin.append_, run_underlying ht, sizeOf, typeInfo, hi, Builtin.lenOf, Builtin.firstCells, hnc, storeCells]
  · obtain ⟨v', w', hr, ho, hg, _, hsame⟩ := run_append_own_at (P := P) (w := w) base t ty e i z size bytes ht hi hz hsize hby hzs hsz _ n xs hown ad m c news h1 h3 h2 h63 hbytes hbase
    have hB : Below base w w' := ⟨hg.os, hg.tape, hg.output, hg.size, fun k hk => hg.block k (by omega) fun he => by have := (hown.lt k he.symm).1; omega⟩
    have eo : ∀ X : Option Addr, ∀ a b, (Value.slice X a b).ownBlock = X.map (fun a => a.block) := fun X a b => by cases X <;> rfl
    have hK : Kept w w' B := ⟨hg.size, fun k hk hne => hg.block k hk fun he => hne (by rw [eo] at he; exact he.symm)⟩
    rcases ho.2 with ⟨rfl, h5⟩ | ⟨g, cap, cur, rfl, _⟩
    · exact ⟨none, 0, w', by rw [hr, h5], by rw [h5] at ho ⊢; exact ho, hB, hK, by simpa [SameOr, eo] using hsame⟩
    · exact ⟨some ⟨g, 0, none⟩, cap, w', hr, ho, hB, hK, by simpa [SameOr, eo] using hsame⟩

theorem wp_append_at {P : Program} {w : World} {o : Oper} {a : Act} {K : Act → World → Prop} {Q : Exit → Act → World → Prop} (s x : Operand) (t : TypeId)
    (ho : o.op = .call { callee := .builtin .append, args := #[s, x], argTypes := #[t, t] })
    {base : Nat} {e : TypeId} {i : TypeInfo} {z : Value} {size bytes : Nat} (ht : P.underlying t = some (.slice e)) (hi : P.info? e = some i) (hz : i.zero = some z)
    (hsize : i.size = size) (hby : i.bytes = bytes) (hzs : z.cells.size = size) (hsz : 0 < size)
    {B : Option Addr} {n cb : Nat} {xs : List Value} (hss : a.eval s = .slice B n cb) (hown : Own base e size w B n cb xs) {A : Option Addr} {m c : Nat} {news : List Value} (hx : a.eval x = .slice A m c) (hs : SrcAt w A m size news)
    (h63 : n + m ≤ maxLen) (hbytes : (n + m) * bytes ≤ 140737488355328) (hbase : base ≤ w.heap.size)
    (h : ∀ B' cb' w', Own base e size w' B' (n + m) cb' (xs ++ news) → Below base w w' → Kept w w' B → SameOr w B B' → K (a.put o.dst (.slice B' (n + m) cb')) w') : o.wp P a w K Q := by
  obtain ⟨B', cb', w', hr, h2, h3, h4, h5⟩ := run_append_at (P := P) (ty := o.type) (c := c) ht hi hz hsize hby hzs hsz hown hs h63 hbytes hbase
  unfold Oper.wp execOp
  simp only [ho, resolve, invoke, builtin, Sem.run_bind, Sem.run_pure, Result.andThen_ok, List.map_toArray, List.map_cons, List.map_nil, hss, hx, hr]
  exact h B' cb' w' h2 h3 h4 h5

/-- At a step of a region that draws. -/
theorem step_append_at {P : Program} {w : World} {ops : Array Oper} {o : Oper} {a : Act} {K : Act → World → Prop} {Q : Exit → Act → World → Prop} {E : Prop} (hw : Region.wanted o (yielded ops a.tmps) = true) (s x : Operand) (t : TypeId)
    (ho : o.op = .call { callee := .builtin .append, args := #[s, x], argTypes := #[t, t] })
    {base : Nat} {e : TypeId} {i : TypeInfo} {z : Value} {size bytes : Nat} (ht : P.underlying t = some (.slice e)) (hi : P.info? e = some i) (hz : i.zero = some z)
    (hsize : i.size = size) (hby : i.bytes = bytes) (hzs : z.cells.size = size) (hsz : 0 < size)
    {B : Option Addr} {n cb : Nat} {xs : List Value} (hss : a.eval s = .slice B n cb) (hown : Own base e size w B n cb xs) {A : Option Addr} {m c : Nat} {news : List Value} (hx : a.eval x = .slice A m c) (hs : SrcAt w A m size news)
    (h63 : n + m ≤ maxLen) (hbytes : (n + m) * bytes ≤ 140737488355328) (hbase : base ≤ w.heap.size)
    (h : ∀ B' cb' w', Own base e size w' B' (n + m) cb' (xs ++ news) → Below base w w' → Kept w w' B → SameOr w B B' → K (a.put o.dst (.slice B' (n + m) cb')) w') :
    if Region.wanted o (yielded ops a.tmps) = true then Oper.wp P o a w K Q else E := by
  rw [if_pos hw]
  exact wp_append_at s x t ho ht hi hz hsize hby hzs hsz hss hown hx hs h63 hbytes hbase h

/-- At a step of a list of operations. -/
theorem wpList_append_at {P : Program} {w : World} {ops : Array Oper} {rest : List Oper} {o : Oper} {a : Act} {Q : Exit → Act → World → Prop} (hg : o.guard = none) (s x : Operand) (t : TypeId)
    (ho : o.op = .call { callee := .builtin .append, args := #[s, x], argTypes := #[t, t] })
    {base : Nat} {e : TypeId} {i : TypeInfo} {z : Value} {size bytes : Nat} (ht : P.underlying t = some (.slice e)) (hi : P.info? e = some i) (hz : i.zero = some z)
    (hsize : i.size = size) (hby : i.bytes = bytes) (hzs : z.cells.size = size) (hsz : 0 < size)
    {B : Option Addr} {n cb : Nat} {xs : List Value} (hss : a.eval s = .slice B n cb) (hown : Own base e size w B n cb xs) {A : Option Addr} {m c : Nat} {news : List Value} (hx : a.eval x = .slice A m c) (hs : SrcAt w A m size news)
    (h63 : n + m ≤ maxLen) (hbytes : (n + m) * bytes ≤ 140737488355328) (hbase : base ≤ w.heap.size)
    (h : ∀ B' cb' w', Own base e size w' B' (n + m) cb' (xs ++ news) → Below base w w' → Kept w w' B → SameOr w B B' → wpList P ops Q rest (a.put o.dst (.slice B' (n + m) cb')) w') :
    wpList P ops Q (o :: rest) a w :=
  wpList_plain hg fun K hK => wp_append_at s x t ho ht hi hz hsize hby hzs hsz hss hown hx hs h63 hbytes hbase fun B' cb' w' h1 h2 h3 h4 => hK _ _ (h B' cb' w' h1 h2 h3 h4)

end Go.Proofs.YtnjpojpfiijlfaaGreat
