/-
Rows of rationals in memory; what Allocate of package step computes. No statement of the seat is proved here; no conditions beyond those of each theorem.
-/
import Derived.Test.YthpldmlpononhaaGreatS1
import Derived.Test.YthpldmlpononhaaGreatF9
namespace Go.Proofs.YthpldmlpononhaaGreat
set_option linter.unusedVariables false
set_option linter.unusedSimpArgs false
open Go.RowKit
open Wd

/-- No cell holds an integer (so no words lie there). -/
def NoInt (cs : Array Value) : Prop := ∀ (i : Nat) (k : IntKind) (z : Int), cs[i]? ≠ some (.int k z)
theorem NoInt.four {a b : Bool} {A A' : Option Addr} {n c n' c' : Nat} : NoInt #[.bool a, .slice A n c, .bool b, .slice A' n' c'] := by
  intro i k z
  match i with
  | 0 => simp
  | 1 => simp
  | 2 => simp
  | 3 => simp
  | i + 4 => simp
theorem NoInt.set {cs : Array Value} (h : NoInt cs) (i : Nat) (v : Value) (hv : ∀ k z, v ≠ .int k z) : NoInt (cs.setIfInBounds i v) := by
  intro j k z
  rw [Array.getElem?_setIfInBounds]
  split
  · split
    · intro e; injection e with e; exact hv _ _ e
    · simp
  · exact h j k z

theorem Wat.setQ {w : World} {A : Option Addr} {n : Nat} {l : List Nat} {g : Nat} {t : TypeId} {cs : Array Value} (h : Wat w A n l) (hb : Blk w g t cs) (hn : NoInt cs) (i : Nat) (u : Value) : Wat (w.setCell ⟨g, i, none⟩ u) A n l := by
  refine ⟨h.1, h.2.1, fun hn0 => ?_⟩
  obtain ⟨b, o, rfl, hlt, hc⟩ := h.2.2 hn0
  have hne : b ≠ g := by
    intro e
    subst e
    have h0 := hc 0 (by omega)
    rw [hb.cell] at h0
    exact hn _ _ _ h0
  refine ⟨b, o, rfl, by simpa [World.setCell] using hlt, fun j hj => ?_⟩
  rw [World.cell?_of_block (w := w) (Below.heap_setCell w _ u b (by simpa using hne))]
  exact hc j hj

/-- Four stores into a block of rationals. -/
def qst (w : World) (g o : Nat) (a b : Bool) (A A' : Option Addr) (k c k' c' : Nat) : World :=
  (((w.setCell ⟨g, o, none⟩ (.bool a)).setCell ⟨g, o + 1, none⟩ (.slice A k c)).setCell ⟨g, o + 2, none⟩ (.bool b)).setCell ⟨g, o + 3, none⟩ (.slice A' k' c')
def qput (cs : Array Value) (o : Nat) (a b : Bool) (A A' : Option Addr) (k c k' c' : Nat) : Array Value :=
  (((cs.setIfInBounds o (.bool a)).setIfInBounds (o + 1) (.slice A k c)).setIfInBounds (o + 2) (.bool b)).setIfInBounds (o + 3) (.slice A' k' c')
section
variable {w : World} {g o : Nat} {a b : Bool} {A A' : Option Addr} {k c k' c' : Nat} {cs : Array Value} {t : TypeId}
theorem NoInt.put4 (h : NoInt cs) : NoInt (qput cs o a b A A' k c k' c') :=
  (((h.set o _ (by simp)).set (o + 1) _ (by simp)).set (o + 2) _ (by simp)).set (o + 3) _ (by simp)
theorem Blk.put4 (h : Blk w g t cs) : Blk (qst w g o a b A A' k c k' c') g t (qput cs o a b A A' k c k' c') :=
  (((h.set o _).set (o + 1) _).set (o + 2) _).set (o + 3) _
theorem Blk.far4 {g' : Nat} {t' : TypeId} {cs' : Array Value} (h : Blk w g' t' cs') (hne : g' ≠ g) : Blk (qst w g o a b A A' k c k' c') g' t' cs' :=
  (((h.far (by simpa using hne) _).far (by simpa using hne) _).far (by simpa using hne) _).far (by simpa using hne) _
theorem Wat.put4 {B : Option Addr} {n : Nat} {l : List Nat} (hW : Wat w B n l) (h : Blk w g t cs) (hn : NoInt cs) : Wat (qst w g o a b A A' k c k' c') B n l := by
  have b1 := h.set o (.bool a)
  have n1 := hn.set o (.bool a) (by simp)
  have b2 := b1.set (o + 1) (.slice A k c)
  have n2 := n1.set (o + 1) (.slice A k c) (by simp)
  have b3 := b2.set (o + 2) (.bool b)
  have n3 := n2.set (o + 2) (.bool b) (by simp)
  exact (((hW.setQ h hn _ _).setQ b1 n1 _ _).setQ b2 n2 _ _).setQ b3 n3 _ _
theorem below_qst {B : Nat} {w0 : World} (h : Below B w0 w) (hg : B ≤ g) : Below B w0 (qst w g o a b A A' k c k' c') :=
  (((h.setCell (p := ⟨g, o, none⟩) hg _).setCell (p := ⟨g, o + 1, none⟩) hg _).setCell (p := ⟨g, o + 2, none⟩) hg _).setCell (p := ⟨g, o + 3, none⟩) hg _
theorem size_qst : (qst w g o a b A A' k c k' c').heap.size = w.heap.size := by simp [qst, World.setCell]
theorem qput_size : (qput cs o a b A A' k c k' c').size = cs.size := by simp [qput]
theorem qput_same (h : o + 3 < cs.size) : (qput cs o a b A A' k c k' c')[o]? = some (.bool a) ∧ (qput cs o a b A A' k c k' c')[o + 1]? = some (.slice A k c) ∧ (qput cs o a b A A' k c k' c')[o + 2]? = some (.bool b) ∧ (qput cs o a b A A' k c k' c')[o + 3]? = some (.slice A' k' c') := by
  unfold qput
  refine ⟨?_, ?_, ?_, ?_⟩ <;> simp [Array.getElem?_setIfInBounds] <;> omega
theorem qput_other {j : Nat} (h : j < o ∨ o + 3 < j) : (qput cs o a b A A' k c k' c')[j]? = cs[j]? := by
  unfold qput
  rw [Array.getElem?_setIfInBounds_ne (by omega), Array.getElem?_setIfInBounds_ne (by omega), Array.getElem?_setIfInBounds_ne (by omega), Array.getElem?_setIfInBounds_ne (by omega)]
end

/-- A row of canonical rationals in a block of its own. -/
def QRow (w : World) (g n : Nat) (ps : List Rat) : Prop :=
  ps.length = n ∧ ∃ cs, Blk w g 31 cs ∧ NoInt cs ∧ cs.size = n * 4 ∧ ∀ j, j < n → ∃ A k c A' k' c',
    cs[j * 4]? = some (.bool (decide ((ps[j]?.getD 0).num < 0))) ∧ cs[j * 4 + 1]? = some (.slice A k c) ∧ cs[j * 4 + 2]? = some (.bool false) ∧ cs[j * 4 + 3]? = some (.slice A' k' c') ∧
    k ≤ c ∧ k' ≤ c' ∧ Wat w A k (digs (ps[j]?.getD 0).num.natAbs) ∧ Wat w A' k' (denW (ps[j]?.getD 0).den)

theorem QRow.below {w w' : World} {g n : Nat} {ps : List Rat} (h : QRow w g n ps) (hb : Below w.heap.size w w') : QRow w' g n ps := by
  obtain ⟨h1, cs, h2, h3, h4, h5⟩ := h
  refine ⟨h1, cs, h2.below hb h2.lt, h3, h4, fun j hj => ?_⟩
  obtain ⟨A, k, c, A', k', c', e1, e2, e3, e4, e5, e6, e7, e8⟩ := h5 j hj
  exact ⟨A, k, c, A', k', c', e1, e2, e3, e4, e5, e6, e7.below hb, e8.below hb⟩

theorem QRow.put {w : World} {g n i : Nat} {ps : List Rat} {q : Rat} {A A' : Option Addr} {k c k' c' : Nat} (h : QRow w g n ps) (hi : i < n) (hk : k ≤ c) (hk' : k' ≤ c') (hW : Wat w A k (digs q.num.natAbs)) (hW' : Wat w A' k' (denW q.den)) :
    QRow (qst w g (i * 4) (decide (q.num < 0)) false A A' k c k' c') g n (ps.set i q) := by
  obtain ⟨h1, cs, h2, h3, h4, h5⟩ := h
  refine ⟨by simpa using h1, _, h2.put4, h3.put4, by rw [qput_size, h4], fun j hj => ?_⟩
  by_cases hji : j = i
  · subst hji
    have e : ((ps.set j q)[j]?.getD 0) = q := by simp [h1, hj]
    rw [e]
    obtain ⟨p1, p2, p3, p4⟩ := qput_same (cs := cs) (o := j * 4) (a := decide (q.num < 0)) (b := false) (A := A) (A' := A') (k := k) (c := c) (k' := k') (c' := c') (by omega)
    exact ⟨A, k, c, A', k', c', p1, p2, p3, p4, hk, hk', hW.put4 h2 h3, hW'.put4 h2 h3⟩
  · have e : ((ps.set i q)[j]?.getD 0) = (ps[j]?.getD 0) := by rw [List.getElem?_set_ne (Ne.symm hji)]
    rw [e]
    obtain ⟨B, m, d, B', m', d', e1, e2, e3, e4, e5, e6, e7, e8⟩ := h5 j hj
    refine ⟨B, m, d, B', m', d', ?_, ?_, ?_, ?_, e5, e6, e7.put4 h2 h3, e8.put4 h2 h3⟩
    · rw [qput_other (by omega)]; exact e1
    · rw [qput_other (by omega)]; exact e2
    · rw [qput_other (by omega)]; exact e3
    · rw [qput_other (by omega)]; exact e4

/-- A row and a store into another box of rationals. -/
theorem QRow.far4 {w : World} {g g' n o : Nat} {ps : List Rat} {a b : Bool} {A A' : Option Addr} {k c k' c' : Nat} {t : TypeId} {cs : Array Value} (h : QRow w g n ps) (hne : g ≠ g') (hb : Blk w g' t cs) (hn : NoInt cs) :
    QRow (qst w g' o a b A A' k c k' c') g n ps := by
  obtain ⟨h1, cs', h2, h3, h4, h5⟩ := h
  refine ⟨h1, cs', h2.far4 hne, h3, h4, fun j hj => ?_⟩
  obtain ⟨B, m, d, B', m', d', e1, e2, e3, e4, e5, e6, e7, e8⟩ := h5 j hj
  exact ⟨B, m, d, B', m', d', e1, e2, e3, e4, e5, e6, e7.put4 hb hn, e8.put4 hb hn⟩

theorem QAt.put4 {w : World} {Nn Nd : Nat} {neg neg' : Bool} {B B' : Option Addr} {n d n' d' : Nat} {q : Rat} {g o : Nat} {a b : Bool} {A A' : Option Addr} {k c k' c' : Nat} {t : TypeId} {cs : Array Value} (h : QAt Nn Nd w neg B n d neg' B' n' d' q) (hb : Blk w g t cs) (hn : NoInt cs) :
    QAt Nn Nd (qst w g o a b A A' k c k' c') neg B n d neg' B' n' d' q := by
  obtain ⟨na, da, ⟨l, l', h1, h2, h3⟩, h4⟩ := h
  exact ⟨na, da, ⟨l, l', h1.put4 hb hn, h2.put4 hb hn, h3⟩, h4⟩

end Go.Proofs.YthpldmlpononhaaGreat
