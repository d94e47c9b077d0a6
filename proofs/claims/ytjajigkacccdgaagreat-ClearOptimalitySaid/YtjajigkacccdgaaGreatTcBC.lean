/-
Rows of rationals in memory; what Allocate of package step computes. Allocate of package step at a valid curve and a quantity that fits it. Allocate of package step at a valid curve and a quantity that fits it: the walk. No statement of the seat is proved here; no conditions beyond those of each theorem.
-/
import Derived.Test.YtjajigkacccdgaaGreatTcAX
import Derived.Test.YtjajigkacccdgaaGreatTcAL
namespace Go.Proofs.YtjajigkacccdgaaGreat
set_option linter.unusedVariables false
set_option linter.unusedSimpArgs false
open Go.RowKit
open Wd

/-- No cell holds an integer (so no words lie there). -/
def NoInt (cs : Array Value) : Prop := ∀ (i : Nat) (k : IntKind) (z : Int), cs[i]? ≠ some (.int k z)
theorem NoInt.four {a b : Bool} {A A' : Option Addr} {n c n' c' : Nat} : NoInt #[.bool a, .slice A n c, .bool b, .slice A' n' c'] := by
 intro i k z
 match i with
 | 0 => simp
 | 1 => simp
 | 2 => simp
 | 3 => simp
 | i + 4 => simp
theorem NoInt.set {cs : Array Value} (h : NoInt cs) (i : Nat) (v : Value) (hv : ∀ k z, v ≠ .int k z) : NoInt (cs.setIfInBounds i v) := by
 intro j k z
 rw [Array.getElem?_setIfInBounds]
 split
 ·split
  ·intro e; injection e with e; exact hv _ _ e
  ·simp
 ·exact h j k z

theorem Wat.setQ {w : World} {A : Option Addr} {n : Nat} {l : List Nat} {g : Nat} {t : TypeId} {cs : Array Value} (h : Wat w A n l) (hb : Blk w g t cs) (hn : NoInt cs) (i : Nat) (u : Value) : Wat (w.setCell ⟨g, i, none⟩ u) A n l := by
 refine ⟨h.1, h.2.1, fun hn0 => ?_⟩
 obtain ⟨b, o, rfl, hlt, hc⟩ := h.2.2 hn0
 have hne : b ≠ g := by
  intro e
  subst e
  have h0 := hc 0 (by omega)
  rw [hb.cell] at h0
  exact hn _ _ _ h0
 refine ⟨b, o, rfl, by simpa [World.setCell] using hlt, fun j hj => ?_⟩
 rw [World.cell?_of_block (w := w) (Below.heap_setCell w _ u b (by simpa using hne))]
 exact hc j hj

/-- Four stores into a block of rationals. -/
def qst (w : World) (g o : Nat) (a b : Bool) (A A' : Option Addr) (k c k' c' : Nat) : World :=
 (((w.setCell ⟨g, o, none⟩ (.bool a)).setCell ⟨g, o + 1, none⟩ (.slice A k c)).setCell ⟨g, o + 2, none⟩ (.bool b)).setCell ⟨g, o + 3, none⟩ (.slice A' k' c')
def qput (cs : Array Value) (o : Nat) (a b : Bool) (A A' : Option Addr) (k c k' c' : Nat) : Array Value :=
 (((cs.setIfInBounds o (.bool a)).setIfInBounds (o + 1) (.slice A k c)).setIfInBounds (o + 2) (.bool b)).setIfInBounds (o + 3) (.slice A' k' c')
section
variable {w : World} {g o : Nat} {a b : Bool} {A A' : Option Addr} {k c k' c' : Nat} {cs : Array Value} {t : TypeId}
theorem NoInt.put4 (h : NoInt cs) : NoInt (qput cs o a b A A' k c k' c') :=
 (((h.set o _ (by simp)).set (o + 1) _ (by simp)).set (o + 2) _ (by simp)).set (o + 3) _ (by simp)
theorem Blk.put4 (h : Blk w g t cs) : Blk (qst w g o a b A A' k c k' c') g t (qput cs o a b A A' k c k' c') :=
 (((h.set o _).set (o + 1) _).set (o + 2) _).set (o + 3) _
theorem Blk.far4 {g' : Nat} {t' : TypeId} {cs' : Array Value} (h : Blk w g' t' cs') (hne : g' ≠ g) : Blk (qst w g o a b A A' k c k' c') g' t' cs' :=
 (((h.far (by simpa using hne) _).far (by simpa using hne) _).far (by simpa using hne) _).far (by simpa using hne) _
theorem Wat.put4 {B : Option Addr} {n : Nat} {l : List Nat} (hW : Wat w B n l) (h : Blk w g t cs) (hn : NoInt cs) : Wat (qst w g o a b A A' k c k' c') B n l := by
 have b1 := h.set o (.bool a)
 have n1 := hn.set o (.bool a) (by simp)
 have b2 := b1.set (o + 1) (.slice A k c)
 have n2 := n1.set (o + 1) (.slice A k c) (by simp)
 have b3 := b2.set (o + 2) (.bool b)
 have n3 := n2.set (o + 2) (.bool b) (by simp)
 exact (((hW.setQ h hn _ _).setQ b1 n1 _ _).setQ b2 n2 _ _).setQ b3 n3 _ _
theorem below_qst {B : Nat} {w0 : World} (h : Below B w0 w) (hg : B ≤ g) : Below B w0 (qst w g o a b A A' k c k' c') :=
 (((h.setCell (p := ⟨g, o, none⟩) hg _).setCell (p := ⟨g, o + 1, none⟩) hg _).setCell (p := ⟨g, o + 2, none⟩) hg _).setCell (p := ⟨g, o + 3, none⟩) hg _

theorem qput_size : (qput cs o a b A A' k c k' c').size = cs.size := by simp [qput]
theorem qput_same (h : o + 3 < cs.size) : (qput cs o a b A A' k c k' c')[o]? = some (.bool a) ∧ (qput cs o a b A A' k c k' c')[o + 1]? = some (.slice A k c) ∧ (qput cs o a b A A' k c k' c')[o + 2]? = some (.bool b) ∧ (qput cs o a b A A' k c k' c')[o + 3]? = some (.slice A' k' c') := by
 unfold qput
 refine ⟨?_, ?_, ?_, ?_⟩ <;> simp [Array.getElem?_setIfInBounds] <;> omega
theorem qput_other {j : Nat} (h : j < o ∨ o + 3 < j) : (qput cs o a b A A' k c k' c')[j]? = cs[j]? := by
 unfold qput
 rw [Array.getElem?_setIfInBounds_ne (by omega), Array.getElem?_setIfInBounds_ne (by omega), Array.getElem?_setIfInBounds_ne (by omega), Array.getElem?_setIfInBounds_ne (by omega)]
end

/-- A row of canonical rationals in a block of its own. -/
def QRow (w : World) (g n : Nat) (ps : List Rat) : Prop :=
 ps.length = n ∧ ∃ cs, Blk w g 42 cs ∧ NoInt cs ∧ cs.size = n * 4 ∧ ∀ j, j < n → ∃ A k c A' k' c',
  cs[j * 4]? = some (.bool (decide ((ps[j]?.getD 0).num < 0))) ∧ cs[j * 4 + 1]? = some (.slice A k c) ∧ cs[j * 4 + 2]? = some (.bool false) ∧ cs[j * 4 + 3]? = some (.slice A' k' c') ∧
  k ≤ c ∧ k' ≤ c' ∧ Wat w A k (digs (ps[j]?.getD 0).num.natAbs) ∧ Wat w A' k' (denW (ps[j]?.getD 0).den)

theorem QRow.below {w w' : World} {g n : Nat} {ps : List Rat} (h : QRow w g n ps) (hb : Below w.heap.size w w') : QRow w' g n ps := by
 obtain ⟨h1, cs, h2, h3, h4, h5⟩ := h
 refine ⟨h1, cs, h2.below hb h2.lt, h3, h4, fun j hj => ?_⟩
 obtain ⟨A, k, c, A', k', c', e1, e2, e3, e4, e5, e6, e7, e8⟩ := h5 j hj
 exact ⟨A, k, c, A', k', c', e1, e2, e3, e4, e5, e6, e7.below hb, e8.below hb⟩

theorem QRow.put {w : World} {g n i : Nat} {ps : List Rat} {q : Rat} {A A' : Option Addr} {k c k' c' : Nat} (h : QRow w g n ps) (hi : i < n) (hk : k ≤ c) (hk' : k' ≤ c') (hW : Wat w A k (digs q.num.natAbs)) (hW' : Wat w A' k' (denW q.den)) :
  QRow (qst w g (i * 4) (decide (q.num < 0)) false A A' k c k' c') g n (ps.set i q) := by
 obtain ⟨h1, cs, h2, h3, h4, h5⟩ := h
 refine ⟨by simpa using h1, _, h2.put4, h3.put4, by rw [qput_size, h4], fun j hj => ?_⟩
 by_cases hji : j = i
 ·subst hji
  have e : ((ps.set j q)[j]?.getD 0) = q := by simp [h1, hj]
  rw [e]
  obtain ⟨p1, p2, p3, p4⟩ := qput_same (cs := cs) (o := j * 4) (a := decide (q.num < 0)) (b := false) (A := A) (A' := A') (k := k) (c := c) (k' := k') (c' := c') (by omega)
  exact ⟨A, k, c, A', k', c', p1, p2, p3, p4, hk, hk', hW.put4 h2 h3, hW'.put4 h2 h3⟩
 ·have e : ((ps.set i q)[j]?.getD 0) = (ps[j]?.getD 0) := by rw [List.getElem?_set_ne (Ne.symm hji)]
  rw [e]
  obtain ⟨B, m, d, B', m', d', e1, e2, e3, e4, e5, e6, e7, e8⟩ := h5 j hj
  refine ⟨B, m, d, B', m', d', ?_, ?_, ?_, ?_, e5, e6, e7.put4 h2 h3, e8.put4 h2 h3⟩
  ·rw [qput_other (by omega)]; exact e1
  ·rw [qput_other (by omega)]; exact e2
  ·rw [qput_other (by omega)]; exact e3
  ·rw [qput_other (by omega)]; exact e4

/-- A row and a store into another box of rationals. -/
theorem QRow.far4 {w : World} {g g' n o : Nat} {ps : List Rat} {a b : Bool} {A A' : Option Addr} {k c k' c' : Nat} {t : TypeId} {cs : Array Value} (h : QRow w g n ps) (hne : g ≠ g') (hb : Blk w g' t cs) (hn : NoInt cs) :
  QRow (qst w g' o a b A A' k c k' c') g n ps := by
 obtain ⟨h1, cs', h2, h3, h4, h5⟩ := h
 refine ⟨h1, cs', h2.far4 hne, h3, h4, fun j hj => ?_⟩
 obtain ⟨B, m, d, B', m', d', e1, e2, e3, e4, e5, e6, e7, e8⟩ := h5 j hj
 exact ⟨B, m, d, B', m', d', e1, e2, e3, e4, e5, e6, e7.put4 hb hn, e8.put4 hb hn⟩

theorem QAt.put4 {w : World} {Nn Nd : Nat} {neg neg' : Bool} {B B' : Option Addr} {n d n' d' : Nat} {q : Rat} {g o : Nat} {a b : Bool} {A A' : Option Addr} {k c k' c' : Nat} {t : TypeId} {cs : Array Value} (h : QAt Nn Nd w neg B n d neg' B' n' d' q) (hb : Blk w g t cs) (hn : NoInt cs) :
  QAt Nn Nd (qst w g o a b A A' k c k' c') neg B n d neg' B' n' d' q := by
 obtain ⟨na, da, ⟨l, l', h1, h2, h3⟩, h4⟩ := h
 exact ⟨na, da, ⟨l, l', h1.put4 hb hn, h2.put4 hb hn, h3⟩, h4⟩

end Go.Proofs.YtjajigkacccdgaaGreat

namespace Go.Proofs.YtjajigkacccdgaaGreat
set_option linter.unusedVariables false
set_option linter.unusedSimpArgs false
open Go.RowKit
open Wd

/-- The lesser of a rest and a quantity. -/
def lessQ (r : Rat) (a : Int) : Rat := if (a : Rat) < r then (a : Rat) else r
/-- What is left of q before step k, and what is taken from step k. -/
def restAt (l : List (Int × Int)) (q : Rat) : Nat → Rat
 | 0 => q
 | k + 1 => restAt l q k - lessQ (restAt l q k) (l[k]?.getD (0, 0)).1
def partAt (l : List (Int × Int)) (q : Rat) (k : Nat) : Rat := lessQ (restAt l q k) (l[k]?.getD (0, 0)).1

theorem sub_whole (r : Rat) (a : Int) : (r - (a : Rat)).num = r.num - a * r.den ∧ (r - (a : Rat)).den = r.den := by
 have hd := r.den_nz
 have e0 : r - (a : Rat) = mkRat (r.num - a * r.den) r.den := by
  have e1 : r = mkRat r.num r.den := (Rat.mkRat_self r).symm
  have e2 : (a : Rat) = mkRat a 1 := by rw [Rat.mkRat_one]
  have := rat_sub r.num a (r.den : Int) 1 (by omega) (by omega)
  simp only [Int.natAbs_natCast, Int.mul_one] at this
  rw [show (1 : Int).natAbs = 1 from rfl, ← e1, ← e2] at this
  exact this
 have hg : Nat.gcd (r.num - a * r.den).natAbs r.den = 1 := by
  have h1 : Nat.gcd r.num.natAbs r.den = 1 := r.reduced
  have h2 : Int.gcd (r.num - a * r.den) r.den = Int.gcd r.num r.den := by
   rw [Int.sub_eq_add_neg, ← Int.neg_mul, Int.mul_comm (-a), Int.gcd_add_mul_left_left]
  exact h2.trans h1
 rw [e0, mk_num _ _ hd, mk_den _ _ hd, hg]
 simp

theorem rest_bd {r : Rat} {a : Int} {Nn Nd : Nat} (h0 : 0 ≤ r) (ha : 0 ≤ a) (hn : r.num.natAbs < Nn) (hd : r.den < Nd) :
  0 ≤ r - lessQ r a ∧ (r - lessQ r a).num.natAbs < Nn ∧ (r - lessQ r a).den < Nd := by
 have hdp := r.den_pos
 unfold lessQ
 split
 ·rename_i hlt
  obtain ⟨e1, e2⟩ := sub_whole r a
  have h1 : 0 ≤ r - (a : Rat) := by grind
  have h2 : 0 ≤ (r - (a : Rat)).num := Rat.num_nonneg.2 h1
  have h3 : 0 ≤ r.num := Rat.num_nonneg.2 h0
  refine ⟨h1, ?_, by rw [e2]; exact hd⟩
  have h4 : 0 ≤ a * r.den := Int.mul_nonneg ha (by omega)
  rw [e1] at h2 ⊢
  omega
 ·have e : r - r = 0 := by grind
  rw [e]
  refine ⟨Rat.le_refl, ?_, ?_⟩
  ·show 0 < Nn; omega
  ·show 1 < Nd; omega

theorem restAt_bd {l : List (Int × Int)} {q : Rat} {Nn Nd : Nat} (h0 : 0 ≤ q) (hok : ∀ s ∈ l, ¬ Bad s.1 s.2) (hn : q.num.natAbs < Nn) (hd : q.den < Nd) : ∀ k, k ≤ l.length → 0 ≤ restAt l q k ∧ (restAt l q k).num.natAbs < Nn ∧ (restAt l q k).den < Nd
 | 0, _ => ⟨h0, hn, hd⟩
 | k + 1, hk => by
  obtain ⟨i1, i2, i3⟩ := restAt_bd h0 hok hn hd k (by omega)
  have hm : (l[k]?.getD (0, 0)) ∈ l := by rw [List.getElem?_eq_getElem (by omega)]; exact List.getElem_mem _
  have hb := hok _ hm
  unfold Bad at hb
  exact rest_bd i1 (by omega) i2 i3

theorem QAt.bd {Nn Nd : Nat} {w : World} {neg neg' : Bool} {A A' : Option Addr} {n c n' c' : Nat} {q : Rat} (h : QAt Nn Nd w neg A n c neg' A' n' c' q) : q.num.natAbs < Nn ∧ q.den < Nd := by
 obtain ⟨na, da, _, h1, h2, rfl⟩ := h
 have hp := qden_pos da
 rw [mk_num _ _ (by omega), mk_den _ _ (by omega)]
 refine ⟨?_, Nat.lt_of_le_of_lt (Nat.div_le_self _ _) h2⟩
 rw [Int.natAbs_tdiv]
 exact Nat.lt_of_le_of_lt (Nat.div_le_self _ _) h1

end Go.Proofs.YtjajigkacccdgaaGreat
namespace Go.Proofs.YtjajigkacccdgaaGreat
set_option linter.unusedVariables false
set_option linter.unusedSimpArgs false
open Go.RowKit
open Wd
theorem info_Q : (Tryz.prog.info? 42).map (fun i => (i.zero, i.size, i.bytes)) = some (some (.agg #[.bool false, .slice none 0 0, .bool false, .slice none 0 0]), 4, 64) := by kernel_rfl

def qzero : Array Value := #[.bool false, .slice none 0 0, .bool false, .slice none 0 0]
theorem run_make_Q (k : Nat) (hk : k ≤ 1000000000) (w : World) :
  (Instr.makeSlice 46 (.int .i64 (k : Int)) (.int .i64 (k : Int))).run Tryz.prog w = .ok (.slice (some ⟨w.heap.size, 0, none⟩) k k) (w.alloc (.cells (madeCells qzero (k * 4)) 42)) := by
 obtain ⟨i0, hi, hz0, hz1, hz2⟩ := info_parts info_Q
 have h := run_make (P := Tryz.prog) w 46 42 i0 _ Tryz.underlying46 hi hz0 .i64 .i64 k k (by omega) (Int.le_refl _) (by rw [hz2]; omega) (by omega)
 rw [h, hz1]
 simp only [Int.toNat_natCast, Value.cells]
 rfl

theorem made_get (n i : Nat) (h : i < n) : (madeCells qzero n)[i]? = some (qzero[i % 4]!) := by
 simp [madeCells, h, qzero]

theorem made_noInt (n : Nat) : NoInt (madeCells qzero n) := by
 intro i k z
 by_cases h : i < n
 ·rw [made_get n i h]
  have h4 : i % 4 < 4 := Nat.mod_lt _ (by omega)
  generalize i % 4 = m at *
  match m, h4 with
  | 0, _ => simp [qzero]
  | 1, _ => simp [qzero]
  | 2, _ => simp [qzero]
  | 3, _ => simp [qzero]
 ·rw [Array.getElem?_eq_none (by rw [size_madeCells]; omega)]; simp

theorem QRow.start (w : World) (n : Nat) : QRow (w.alloc (.cells (madeCells qzero (n * 4)) 42)) w.heap.size n (List.replicate n 0) := by
 refine ⟨by simp, _, Blk.new _ _ _, made_noInt _, size_madeCells _ _, fun j hj => ?_⟩
 have e : ((List.replicate n (0 : Rat))[j]?.getD 0) = 0 := by simp [hj]
 rw [e]
 refine ⟨none, 0, 0, none, 0, 0, ?_, ?_, ?_, ?_, Nat.le_refl _, Nat.le_refl _, ?_, ?_⟩
 ·rw [made_get _ _ (by omega), show j * 4 % 4 = 0 by omega]; rfl
 ·rw [made_get _ _ (by omega), show (j * 4 + 1) % 4 = 1 by omega]; rfl
 ·rw [made_get _ _ (by omega), show (j * 4 + 2) % 4 = 2 by omega]; rfl
 ·rw [made_get _ _ (by omega), show (j * 4 + 3) % 4 = 3 by omega]; rfl
 ·show Wat _ none 0 (digs 0); rw [digs_zero]; exact Wat.nil
 ·show Wat _ none 0 []; exact Wat.nil

end Go.Proofs.YtjajigkacccdgaaGreat
