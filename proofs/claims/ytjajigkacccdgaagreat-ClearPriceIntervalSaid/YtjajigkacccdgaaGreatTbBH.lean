/-
Allocate of package step at a valid curve and a quantity that fits it. Allocate of package step at a valid curve and a quantity that fits it: the walk. Allocate of package step at a valid curve and a quantity that fits it: the walk. Cost of package step at a valid curve and a quantity that fits it. Plain law of package energy: a row that stands at a threshold of price and unit is the least of its sum, by cost and then by order. Cost of package step at whole quantities. No statement of the seat is proved here; no conditions beyond those of each theorem.
-/
import Derived.Test.YtjajigkacccdgaaGreatTbBG
import Derived.Deep.RegionWith
import Derived.Deep.DrawnRows
namespace Go.Proofs.YtjajigkacccdgaaGreat
set_option linter.unusedVariables false
set_option linter.unusedSimpArgs false
open Go.RowKit
open Wd

/-- The lesser of a rest and a quantity. -/
def lessQ (r : Rat) (a : Int) : Rat := if (a : Rat) < r then (a : Rat) else r
/-- What is left of q before step k, and what is taken from step k. -/
def restAt (l : List (Int × Int)) (q : Rat) : Nat → Rat
 | 0 => q
 | k + 1 => restAt l q k - lessQ (restAt l q k) (l[k]?.getD (0, 0)).1
def partAt (l : List (Int × Int)) (q : Rat) (k : Nat) : Rat := lessQ (restAt l q k) (l[k]?.getD (0, 0)).1

theorem sub_whole (r : Rat) (a : Int) : (r - (a : Rat)).num = r.num - a * r.den ∧ (r - (a : Rat)).den = r.den := by
 have hd := r.den_nz
 have e0 : r - (a : Rat) = mkRat (r.num - a * r.den) r.den := by
  have e1 : r = mkRat r.num r.den := (Rat.mkRat_self r).symm
  have e2 : (a : Rat) = mkRat a 1 := by rw [Rat.mkRat_one]
  have := rat_sub r.num a (r.den : Int) 1 (by omega) (by omega)
  simp only [Int.natAbs_natCast, Int.mul_one] at this
  rw [show (1 : Int).natAbs = 1 from rfl, ← e1, ← e2] at this
  exact this
 have hg : Nat.gcd (r.num - a * r.den).natAbs r.den = 1 := by
  have h1 : Nat.gcd r.num.natAbs r.den = 1 := r.reduced
  have h2 : Int.gcd (r.num - a * r.den) r.den = Int.gcd r.num r.den := by
   rw [Int.sub_eq_add_neg, ← Int.neg_mul, Int.mul_comm (-a), Int.gcd_add_mul_left_left]
  exact h2.trans h1
 rw [e0, mk_num _ _ hd, mk_den _ _ hd, hg]
 simp

theorem rest_bd {r : Rat} {a : Int} {Nn Nd : Nat} (h0 : 0 ≤ r) (ha : 0 ≤ a) (hn : r.num.natAbs < Nn) (hd : r.den < Nd) :
  0 ≤ r - lessQ r a ∧ (r - lessQ r a).num.natAbs < Nn ∧ (r - lessQ r a).den < Nd := by
 have hdp := r.den_pos
 unfold lessQ
 split
 ·rename_i hlt
  obtain ⟨e1, e2⟩ := sub_whole r a
  have h1 : 0 ≤ r - (a : Rat) := by grind
  have h2 : 0 ≤ (r - (a : Rat)).num := Rat.num_nonneg.2 h1
  have h3 : 0 ≤ r.num := Rat.num_nonneg.2 h0
  refine ⟨h1, ?_, by rw [e2]; exact hd⟩
  have h4 : 0 ≤ a * r.den := Int.mul_nonneg ha (by omega)
  rw [e1] at h2 ⊢
  omega
 ·have e : r - r = 0 := by grind
  rw [e]
  refine ⟨Rat.le_refl, ?_, ?_⟩
  ·show 0 < Nn; omega
  ·show 1 < Nd; omega


theorem QAt.bd {Nn Nd : Nat} {w : World} {neg neg' : Bool} {A A' : Option Addr} {n c n' c' : Nat} {q : Rat} (h : QAt Nn Nd w neg A n c neg' A' n' c' q) : q.num.natAbs < Nn ∧ q.den < Nd := by
 obtain ⟨na, da, _, h1, h2, rfl⟩ := h
 have hp := qden_pos da
 rw [mk_num _ _ (by omega), mk_den _ _ (by omega)]
 refine ⟨?_, Nat.lt_of_le_of_lt (Nat.div_le_self _ _) h2⟩
 rw [Int.natAbs_tdiv]
 exact Nat.lt_of_le_of_lt (Nat.div_le_self _ _) h1

end Go.Proofs.YtjajigkacccdgaaGreat
namespace Go.Proofs.YtjajigkacccdgaaGreat
set_option linter.unusedVariables false
set_option linter.unusedSimpArgs false
open Go.RowKit
open Wd
theorem info_Q : (Tryz.prog.info? 42).map (fun i => (i.zero, i.size, i.bytes)) = some (some (.agg #[.bool false, .slice none 0 0, .bool false, .slice none 0 0]), 4, 64) := by kernel_rfl

def qzero : Array Value := #[.bool false, .slice none 0 0, .bool false, .slice none 0 0]
theorem run_make_Q (k : Nat) (hk : k ≤ 1000000000) (w : World) :
  (Instr.makeSlice 46 (.int .i64 (k : Int)) (.int .i64 (k : Int))).run Tryz.prog w = .ok (.slice (some ⟨w.heap.size, 0, none⟩) k k) (w.alloc (.cells (madeCells qzero (k * 4)) 42)) := by
 obtain ⟨i0, hi, hz0, hz1, hz2⟩ := info_parts info_Q
 have h := run_make (P := Tryz.prog) w 46 42 i0 _ Tryz.underlying46 hi hz0 .i64 .i64 k k (by omega) (Int.le_refl _) (by rw [hz2]; omega) (by omega)
 rw [h, hz1]
 simp only [Int.toNat_natCast, Value.cells]
 rfl

theorem made_get (n i : Nat) (h : i < n) : (madeCells qzero n)[i]? = some (qzero[i % 4]!) := by
 simp [madeCells, h, qzero]

theorem made_noInt (n : Nat) : NoInt (madeCells qzero n) := by
 intro i k z
 by_cases h : i < n
 ·rw [made_get n i h]
  have h4 : i % 4 < 4 := Nat.mod_lt _ (by omega)
  generalize i % 4 = m at *
  match m, h4 with
  | 0, _ => simp [qzero]
  | 1, _ => simp [qzero]
  | 2, _ => simp [qzero]
  | 3, _ => simp [qzero]
 ·rw [Array.getElem?_eq_none (by rw [size_madeCells]; omega)]; simp

theorem QRow.start (w : World) (n : Nat) : QRow (w.alloc (.cells (madeCells qzero (n * 4)) 42)) w.heap.size n (List.replicate n 0) := by
 refine ⟨by simp, _, Blk.new _ _ _, made_noInt _, size_madeCells _ _, fun j hj => ?_⟩
 have e : ((List.replicate n (0 : Rat))[j]?.getD 0) = 0 := by simp [hj]
 rw [e]
 refine ⟨none, 0, 0, none, 0, 0, ?_, ?_, ?_, ?_, Nat.le_refl _, Nat.le_refl _, ?_, ?_⟩
 ·rw [made_get _ _ (by omega), show j * 4 % 4 = 0 by omega]; rfl
 ·rw [made_get _ _ (by omega), show (j * 4 + 1) % 4 = 1 by omega]; rfl
 ·rw [made_get _ _ (by omega), show (j * 4 + 2) % 4 = 2 by omega]; rfl
 ·rw [made_get _ _ (by omega), show (j * 4 + 3) % 4 = 3 by omega]; rfl
 ·show Wat _ none 0 (digs 0); rw [digs_zero]; exact Wat.nil
 ·show Wat _ none 0 []; exact Wat.nil

end Go.Proofs.YtjajigkacccdgaaGreat

namespace Go.Proofs.YtjajigkacccdgaaGreat
set_option linter.unusedVariables false
set_option linter.unusedSimpArgs false
open Go.RowKit
open Wd

/-- The lesser of two, with the second a whole number in memory. -/
theorem qless_any (M Nn Nd : Nat) (HO : WOK M) (hnm : Nn ≤ M) (hdm : Nd ≤ M) {w : World} {an an' : Bool} {aA aA' bA bA' : Option Addr} {ak ac ak' ac' bk bc bk' bc' : Nat} {r : Rat} {a : Int}
  (ha : QAt Nn Nd w an aA ak ac an' aA' ak' ac' r) (hk : bk ≤ bc) (hk' : bk' ≤ bc') (hW : Wat w bA bk (digs ((a : Int) : Rat).num.natAbs)) (hW' : Wat w bA' bk' (denW ((a : Int) : Rat).den)) (h1 : a.natAbs < Nn) (h2 : 1 < Nd) (h3 : Nn ≤ M) :
  Calls Tryz.prog 85 #[.agg #[.bool an, .slice aA ak ac, .bool an', .slice aA' ak' ac'], .agg #[.bool (decide (((a : Int) : Rat).num < 0)), .slice bA bk bc, .bool false, .slice bA' bk' bc']] w (RetQ w (lessQ r a)) := by
 have hl : bk ≤ 10000000000 := by
  rw [← hW.1, show ((a : Int) : Rat).num = a from rfl]
  exact HO.len _ (by omega)
 have hl' : bk' ≤ 10000000000 := by
  rw [← hW'.1, show ((a : Int) : Rat).den = 1 from rfl]; simp [denW]
 exact qmin_any M Nn Nd HO hnm hdm an an' _ false aA aA' bA bA' ak ac ak' ac' bk bc bk' bc' r (a : Rat) w ha (qat_canon hk hk' hW hW' hl hl' h1 h2)

/-- All blocks but g are as in W, and g is still a block of its kind. -/
def RGB (g : Nat) (t : TypeId) (W w' : World) : Prop := W.grownBy w' (some g) ∧ ∃ cs, Blk w' g t cs
section
variable {g : Nat} {t : TypeId} {W w w' : World}
theorem RGB.start {cs : Array Value} (h : Blk W g t cs) : RGB g t W W := ⟨⟨rfl, rfl, rfl, Nat.le_refl _, fun _ _ _ => rfl⟩, cs, h⟩
theorem RGB.drew (h : RGB g t W w) : RGB g t W w.drew := ⟨⟨h.1.os, h.1.tape, h.1.output, h.1.size, h.1.block⟩, h.2⟩
theorem RGB.call (h : RGB g t W w) (hb : Below w.heap.size w w') : RGB g t W w' := by
 obtain ⟨h1, cs, h2⟩ := h
 exact ⟨⟨hb.os.trans h1.os, hb.tape.trans h1.tape, hb.output.trans h1.output, Nat.le_trans h1.size hb.size, fun k hk hne => (hb.block k (Nat.lt_of_lt_of_le hk h1.size)).trans (h1.block k hk hne)⟩, cs, h2.below hb h2.lt⟩
theorem RGB.set (h : RGB g t W w) (o1 o2 o3 o4 : Nat) (a b c d : Value) : RGB g t W ((((w.setCell ⟨g, o1, none⟩ a).setCell ⟨g, o2, none⟩ b).setCell ⟨g, o3, none⟩ c).setCell ⟨g, o4, none⟩ d) := by
 obtain ⟨h1, cs, h2⟩ := h
 refine ⟨⟨h1.os, h1.tape, h1.output, by simpa [World.setCell] using h1.size, fun k hk hne => ?_⟩, _, (((h2.set o1 a).set o2 b).set o3 c).set o4 d⟩
 have hkg : k ≠ g := fun e => hne (by rw [e])
 rw [Below.heap_setCell _ _ _ _ (by simpa using hkg), Below.heap_setCell _ _ _ _ (by simpa using hkg), Below.heap_setCell _ _ _ _ (by simpa using hkg), Below.heap_setCell _ _ _ _ (by simpa using hkg)]
 exact h1.block k hk hne
theorem RGB.blk {g' : Nat} {t' : TypeId} {cs : Array Value} (h : RGB g t W w) (hg : Blk W g' t' cs) (hne : g' ≠ g) : Blk w g' t' cs := (h.1.block g' hg.lt (fun e => hne (by injection e))).trans hg
end
theorem QRow.cells {w : World} {g n : Nat} {ps : List Rat} (h : QRow w g n ps) {j : Nat} (hj : j < n) : ∃ A k c A' k' c',
  w.cell? ⟨g, j * 4, none⟩ = some (.bool (decide ((ps[j]?.getD 0).num < 0))) ∧ w.cell? ⟨g, j * 4 + 1, none⟩ = some (.slice A k c) ∧ w.cell? ⟨g, j * 4 + 2, none⟩ = some (.bool false) ∧ w.cell? ⟨g, j * 4 + 3, none⟩ = some (.slice A' k' c') ∧
  w.frozen? ⟨g, j * 4, none⟩ = false ∧ w.frozen? ⟨g, j * 4 + 1, none⟩ = false ∧ w.frozen? ⟨g, j * 4 + 2, none⟩ = false ∧ w.frozen? ⟨g, j * 4 + 3, none⟩ = false ∧
  k ≤ c ∧ k' ≤ c' ∧ Wat w A k (digs (ps[j]?.getD 0).num.natAbs) ∧ Wat w A' k' (denW (ps[j]?.getD 0).den) := by
 obtain ⟨_, cs, hb, _, _, hc⟩ := h
 obtain ⟨A, k, c, A', k', c', e1, e2, e3, e4, e5, e6, e7, e8⟩ := hc j hj
 exact ⟨A, k, c, A', k', c', (hb.cell _).trans e1, (hb.cell _).trans e2, (hb.cell _).trans e3, (hb.cell _).trans e4, hb.frozen _, hb.frozen _, hb.frozen _, hb.frozen _, e5, e6, e7, e8⟩

/-- The state of Allocate's loop before step k. -/
def AllR (w : World) (Nn Nd g n : Nat) (l : List (Int × Int)) (q : Rat) (k : Nat) (ps : List Rat) (bn : Bool) (bA : Option Addr) (bk bc : Nat) (bn' : Bool) (bA' : Option Addr) (bk' bc' : Nat) (wr : World) : Prop :=
 Below w.heap.size w wr ∧ Blk wr g 42 #[.bool bn, .slice bA bk bc, .bool bn', .slice bA' bk' bc'] ∧ QAt Nn Nd wr bn bA bk bc bn' bA' bk' bc' (restAt l q k) ∧ QRow wr (g + 1) n ps ∧ ∀ j, j < k → ps[j]?.getD 0 = partAt l q j

theorem qat_len {M Nn Nd : Nat} (HO : WOK M) (hnm : Nn ≤ M) (hdm : Nd ≤ M) {w : World} {A A' : Option Addr} {k c k' c' : Nat} {q : Rat} (hk : k ≤ c) (hk' : k' ≤ c') (hW : Wat w A k (digs q.num.natAbs)) (hW' : Wat w A' k' (denW q.den)) (hn : q.num.natAbs < Nn) (hd : q.den < Nd) :
  QAt Nn Nd w (decide (q.num < 0)) A k c false A' k' c' q := by
 refine qat_canon hk hk' hW hW' ?_ ?_ hn hd
 ·rw [← hW.1]; exact HO.len _ (by omega)
 ·rw [← hW'.1]; unfold denW; split
  ·simp
  ·exact HO.len _ (by omega)


end Go.Proofs.YtjajigkacccdgaaGreat
namespace Go.Proofs.YtjajigkacccdgaaGreat
set_option linter.unusedVariables false
set_option linter.unusedSimpArgs false
open Go.RowKit
open Wd
attribute [local go_sem ↓] Go.wp_at_zero Go.wp_at_succ
/-- The canonical rational q lies in two slices, in memory from block base on. -/
def CQ (base : Nat) (w : World) (q : Rat) (A : Option Addr) (k c : Nat) (A' : Option Addr) (k' c' : Nat) : Prop :=
 k ≤ c ∧ k' ≤ c' ∧ Wat w A k (digs q.num.natAbs) ∧ Wat w A' k' (denW q.den) ∧ Fresh base w A k ∧ Fresh base w A' k'
section
variable {base base' : Nat} {w w' : World} {q : Rat} {A A' : Option Addr} {k c k' c' : Nat}
theorem CQ.below (h : CQ base w q A k c A' k' c') (hb : Below w.heap.size w w') : CQ base w' q A k c A' k' c' := by
 obtain ⟨h1, h2, h3, h4, h5, h6⟩ := h
 exact ⟨h1, h2, h3.below hb, h4.below hb, h5.keep h3 hb, h6.keep h4 hb⟩

theorem CQ.put4 {g o : Nat} {a b : Bool} {B B' : Option Addr} {j d j' d' : Nat} {t : TypeId} {cs : Array Value} (h : CQ base w q A k c A' k' c') (hb : Blk w g t cs) (hn : NoInt cs) : CQ base (qst w g o a b B B' j d j' d') q A k c A' k' c' := by
 obtain ⟨h1, h2, h3, h4, h5, h6⟩ := h
 exact ⟨h1, h2, h3.put4 hb hn, h4.put4 hb hn, (((h5.set _ _).set _ _).set _ _).set _ _, (((h6.set _ _).set _ _).set _ _).set _ _⟩
theorem CQ.zero : CQ base w 0 none 0 0 none 0 0 := by
 refine ⟨Nat.le_refl _, Nat.le_refl _, ?_, Wat.nil, Fresh.nil, Fresh.nil⟩
 show Wat _ none 0 (digs 0); rw [digs_zero]; exact Wat.nil
theorem CQ.at {M Nn Nd : Nat} (h : CQ base w q A k c A' k' c') (HO : WOK M) (hnm : Nn ≤ M) (hdm : Nd ≤ M) (hn : q.num.natAbs < Nn) (hd : q.den < Nd) : QAt Nn Nd w (decide (q.num < 0)) A k c false A' k' c' q :=
 qat_len HO hnm hdm h.1 h.2.1 h.2.2.1 h.2.2.2.1 hn hd
end

/-- The cost of what is taken from the first k steps. -/
def costAt (l : List (Int × Int)) (q : Rat) : Nat → Rat
 | 0 => 0
 | k + 1 => costAt l q k + partAt l q k * (((l[k]?.getD (0, 0)).2 : Int) : Rat)

/-- The sizes that Cost comes to fit the bounds of its arithmetic. -/
structure CostOK (M Nn Nd Cn Cd : Nat) (l : List (Int × Int)) (q : Rat) : Prop where
 hn : 3000000 < Nn
 hn2 : Nn ≤ M
 hd : 1 < Nd
 nn : Nn * Nn ≤ M
 dd : Nd * Nd ≤ M
 nd : 2 * (Nn * Nd) ≤ M
 nm : Nn ≤ M
 dm : Nd ≤ M
 cnd : 2 * (Cn * Cd) ≤ M
 cdd : Cd * Cd ≤ M
 cn : Cn ≤ M
 cd : Cd ≤ M
 sum : ∀ k, k ≤ l.length → (costAt l q k).num.natAbs < Cn ∧ (costAt l q k).den < Cd
 prod : ∀ k, k < l.length → (partAt l q k * (((l[k]?.getD (0, 0)).2 : Int) : Rat)).num.natAbs < Cn ∧ (partAt l q k * (((l[k]?.getD (0, 0)).2 : Int) : Rat)).den < Cd

def CstR (w : World) (g gr n : Nat) (l : List (Int × Int)) (q : Rat) (ps : List Rat) (k : Nat) (A : Option Addr) (j c : Nat) (A' : Option Addr) (j' c' : Nat) (wr : World) : Prop :=
 Below w.heap.size w wr ∧ Blk wr g 42 #[.bool (decide ((costAt l q k).num < 0)), .slice A j c, .bool false, .slice A' j' c'] ∧ CQ w.heap.size wr (costAt l q k) A j c A' j' c' ∧ QRow wr gr n ps

def CstPost (w : World) (r : Rat) (e : Ending) (w' : World) : Prop :=
 ∃ A k c A' k' c', e = .returned (.tuple #[.agg #[.bool (decide (r.num < 0)), .slice A k c, .bool false, .slice A' k' c'], .int .i64 0]) ∧ CQ w.heap.size w' r A k c A' k' c' ∧ Below w.heap.size w w'

end Go.Proofs.YtjajigkacccdgaaGreat
namespace Go.Proofs.YtjajigkacccdgaaGreat
set_option linter.unusedVariables false
set_option linter.unusedSimpArgs false
namespace En

def qs : List (Int × Int) → Int
 | [] => 0
 | s :: r => s.1 + qs r









/-- What of a unit bears on an allocation. -/
structure PU where
 on : Bool
 mn : Int
 st : List (Int × Int)
























end En
end Go.Proofs.YtjajigkacccdgaaGreat
namespace Go.Proofs.YtjajigkacccdgaaGreat
set_option linter.unusedVariables false
set_option linter.unusedSimpArgs false
open Go.RowKit
open Wd
def restI (l : List (Int × Int)) (z : Int) : Nat → Int
 | 0 => z
 | k + 1 => restI l z k - min (restI l z k) (l[k]?.getD (0, 0)).1
def partI (l : List (Int × Int)) (z : Int) (k : Nat) : Int := min (restI l z k) (l[k]?.getD (0, 0)).1
def costI (l : List (Int × Int)) (z : Int) : Nat → Int
 | 0 => 0
 | k + 1 => costI l z k + partI l z k * (l[k]?.getD (0, 0)).2

theorem lessQ_whole (z a : Int) : lessQ (z : Rat) a = ((min z a : Int) : Rat) := by
 unfold lessQ
 by_cases h : a < z
 ·rw [if_pos (by exact_mod_cast h), show min z a = a by omega]
 ·rw [if_neg (by intro hh; exact h (by exact_mod_cast hh)), show min z a = z by omega]
theorem restAt_whole (l : List (Int × Int)) (z : Int) : ∀ k, restAt l (z : Rat) k = ((restI l z k : Int) : Rat)
 | 0 => rfl
 | k + 1 => by rw [restAt, restI, restAt_whole l z k, lessQ_whole, Rat.intCast_sub]
theorem partAt_whole (l : List (Int × Int)) (z : Int) (k : Nat) : partAt l (z : Rat) k = ((partI l z k : Int) : Rat) := by
 rw [partAt, partI, restAt_whole, lessQ_whole]
theorem prod_whole (l : List (Int × Int)) (z : Int) (k : Nat) : partAt l (z : Rat) k * (((l[k]?.getD (0, 0)).2 : Int) : Rat) = ((partI l z k * (l[k]?.getD (0, 0)).2 : Int) : Rat) := by
 rw [partAt_whole, Rat.intCast_mul]
theorem costAt_whole (l : List (Int × Int)) (z : Int) : ∀ k, costAt l (z : Rat) k = ((costI l z k : Int) : Rat)
 | 0 => rfl
 | k + 1 => by rw [costAt, costI, costAt_whole l z k, prod_whole, Rat.intCast_add]









end Go.Proofs.YtjajigkacccdgaaGreat