/-
Canonical rationals in memory, at any size. Short names for the steps of a drawn region. The statements of layer 24: curve. The reference of layer 1: trim and at. The reference of layer 1: halves. The reference of layer 1: of. The reference of layer 1: the least form of an integer. The reference of layer 1: Least. The reference of layer 1: From, Same. The references of layers 1 and 2: Int, Same, Is. The references of layers 2 and 23: Is, Rows. append onto rows of the call's own, with the block of the result. A row of rationals that is appended to. The reference of layer 24: Same. No statement of the seat is proved here; no conditions beyond those of each theorem.
-/
import Derived.Test.YtjajigkacccdgaaGreatTcBG
import Derived.Test.YtjajigkacccdgaaGreatTcAV
import Derived.Test.YtjajigkacccdgaaGreatTcAA
import Derived.OrdersHeld
import Derived.Deep.RegionHeld3
import Derived.Test.YtjajigkacccdgaaGreatTcAY
import Derived.Test.YtjajigkacccdgaaGreatTcAE
import Derived.Laws.EntriesVeiled
import Derived.Maps.AppendAt
import Derived.Test.YtjajigkacccdgaaGreatTcBB
namespace Go.Proofs.YtjajigkacccdgaaGreat
set_option linter.unusedVariables false
set_option linter.unusedSimpArgs false
open Go.RowKit
open Wd

/-- The canonical rational q lies in two slices. -/
def RQ (w : World) (q : Rat) (A : Option Addr) (k c : Nat) (A' : Option Addr) (k' c' : Nat) : Prop := k ≤ c ∧ k' ≤ c' ∧ Wat w A k (digs q.num.natAbs) ∧ Wat w A' k' (denW q.den)
section
variable {w w' : World} {q : Rat} {A A' : Option Addr} {k c k' c' : Nat}
theorem RQ.below (h : RQ w q A k c A' k' c') (hb : Below w.heap.size w w') : RQ w' q A k c A' k' c' := ⟨h.1, h.2.1, h.2.2.1.below hb, h.2.2.2.below hb⟩


end
end Go.Proofs.YtjajigkacccdgaaGreat
namespace Go.Proofs.YtjajigkacccdgaaGreat
set_option linter.unusedVariables false
set_option linter.unusedSimpArgs false
open Go
theorem p1 {α : Type} {xs : List α} {i : Nat} (h : i < xs.toArray.size) : xs.toArray[i] = xs[i]'(by simpa using h) := List.getElem_toArray h
theorem p2 {α : Type} {a : α} {xs : List α} (h : 0 < (a :: xs).length) : (a :: xs)[0] = a := rfl
theorem p3 {α : Type} {a : α} {xs : List α} {i : Nat} (h : i + 1 < (a :: xs).length) : (a :: xs)[i + 1] = xs[i]'(Nat.lt_of_succ_lt_succ h) := rfl
theorem p4 {α : Type} (l : List α) (i : Nat) (a : α) : l.toArray.setIfInBounds i a = (l.set i a).toArray := List.setIfInBounds_toArray l i a
theorem p5 {α : Type} {x a : α} {xs : List α} : (x :: xs).set 0 a = a :: xs := rfl
theorem p6 {α : Type} {x a : α} {xs : List α} {n : Nat} : (x :: xs).set (n + 1) a = x :: xs.set n a := rfl
section
variable {P : Program} {ops : Array Oper} {Q : Exit → Act → World → Prop} {md : Region.Mode} {S : World → Prop}
/-- Take number i first; its value v. -/
theorem tkk {oi : Oper} {v : Value} {fuel : Nat} {listed : Array Bool} {a : Act} {w : World} (i : Nat) (hi : ops[i]? = some oi) (hc : (Region.noSelect ops && (Region.free md ops listed i && (Region.ready md ops listed).contains i)) = true)
  (hQ : ∀ c a w, Q (.panic c) (a.put oi.dst v) w → Q (.panic c) a w) (hy : YieldsIf P ops S oi v a) (hS : S w) (h : wpAnyH P md ops Q S fuel (listed.setIfInBounds i true) (a.put oi.dst v) w) : wpAnyH P md ops Q S (fuel + 1) listed a w := by
 simp only [Bool.and_eq_true] at hc
 exact wpAnyH_take hi hc.1 hc.2.1 hc.2.2 hQ hy hS h
end

end Go.Proofs.YtjajigkacccdgaaGreat

namespace Go.Proofs.YtjajigkacccdgaaGreat
set_option linter.unusedVariables false
set_option linter.unusedSimpArgs false
open Go.RowKit
open Wd

def stCells (l : List (Int × Int)) : List Value := l.flatMap fun s => [.int .i64 s.1, .int .i64 s.2]
theorem stCells_append (a b : List (Int × Int)) : stCells (a ++ b) = stCells a ++ stCells b := by simp [stCells]
theorem stCells_len (l : List (Int × Int)) : (stCells l).length = l.length * 2 := by
 induction l with
 | nil => rfl
 | cons s l ih =>
  have : stCells (s :: l) = [.int .i64 s.1, .int .i64 s.2] ++ stCells l := by simp [stCells]
  rw [this, List.length_append, ih]
  simp
  omega
theorem stCells_get : ∀ (l : List (Int × Int)) (j : Nat), j < l.length → (stCells l)[j * 2]? = some (.int .i64 (l[j]?.getD (0, 0)).1) ∧ (stCells l)[j * 2 + 1]? = some (.int .i64 (l[j]?.getD (0, 0)).2)
 | [], j, h => absurd h (by simp)
 | s :: l, 0, _ => by simp [stCells]
 | s :: l, j + 1, h => by
  have e : stCells (s :: l) = .int .i64 s.1 :: .int .i64 s.2 :: stCells l := by simp [stCells]
  have ih := stCells_get l j (by simpa using h)
  rw [e, show (j + 1) * 2 = j * 2 + 1 + 1 by omega, show j * 2 + 1 + 1 + 1 = (j * 2 + 1) + 1 + 1 by omega, List.getElem?_cons_succ, List.getElem?_cons_succ, List.getElem?_cons_succ, List.getElem?_cons_succ, List.getElem?_cons_succ]
  exact ih
theorem stCells_one (l : List (Int × Int)) : ∀ u ∈ stCells l, u.oneCell' = true := by
 intro u hu
 obtain ⟨s, _, h⟩ := List.mem_flatMap.1 hu
 simp at h
 rcases h with rfl | rfl <;> rfl
theorem Own.steps {base : Nat} {e : TypeId} {w : World} {A : Option Addr} {n c : Nat} {l : List (Int × Int)} (h : Own base e 2 w A n c (stCells l)) (hf : ∀ s ∈ l, Fits s.1 ∧ Fits s.2) : StAt w A n l := by
 have hl : l.length = n := by have := h.1; rw [stCells_len] at this; omega
 refine ⟨hl, hf, fun hn => ?_⟩
 obtain ⟨g, cap, hv, hb, hlt⟩ := World.ownsRow.form h (by omega)
 simp at hv
 obtain ⟨rfl, rfl⟩ := hv
 have hcl := stCells_len l
 refine ⟨g, 0, rfl, hlt, fun j hj => ?_⟩
 obtain ⟨g1, g2⟩ := stCells_get l j (by omega)
 rw [Nat.zero_add, World.ownsRow.cellAt h (j * 2) (by omega), World.ownsRow.cellAt h (j * 2 + 1) (by omega)]
 exact ⟨g1, g2⟩
theorem info_step : (Tryz.prog.info? 107).map (fun i => (i.zero, i.size, i.bytes)) = some (some (.agg #[.int .i64 0, .int .i64 0]), 2, 16) := by kernel_rfl
/-- The steps of a list qty, price, qty, price. -/
def prs (xs : List Int) : Nat → List (Int × Int)
 | 0 => []
 | k + 1 => prs xs k ++ [(xs[2 * k]?.getD 0, xs[2 * k + 1]?.getD 0)]

theorem prs_fits {xs : List Int} (h : ∀ i : Nat, Fits (xs[i]?.getD 0)) : ∀ k, ∀ s ∈ prs xs k, Fits s.1 ∧ Fits s.2
 | 0, s, hs => by simp [prs] at hs
 | k + 1, s, hs => by
  rw [prs, List.mem_append] at hs
  rcases hs with hs | hs
  ·exact prs_fits h k s hs
  ·simp at hs
   rw [hs]
   exact ⟨h _, h _⟩

end Go.Proofs.YtjajigkacccdgaaGreat
namespace Go.Proofs.YtjajigkacccdgaaGreat
set_option linter.unusedVariables false
set_option linter.unusedSimpArgs false
open Go.RowKit
open Wd
/-- How many of the first k digits are left when zeros at the end are dropped. -/
def tl (hs : List Int) : Nat → Nat
 | 0 => 0
 | k + 1 => if hs[k]?.getD 0 = 0 then tl hs k else k + 1





end Go.Proofs.YtjajigkacccdgaaGreat
namespace Go.Proofs.YtjajigkacccdgaaGreat
set_option linter.unusedVariables false
set_option linter.unusedSimpArgs false
open Go.RowKit
open Wd




end Go.Proofs.YtjajigkacccdgaaGreat
namespace Go.Proofs.YtjajigkacccdgaaGreat
set_option linter.unusedVariables false
set_option linter.unusedSimpArgs false
open Go.RowKit
open Wd









end Go.Proofs.YtjajigkacccdgaaGreat
namespace Go.Proofs.YtjajigkacccdgaaGreat
set_option linter.unusedVariables false
set_option linter.unusedSimpArgs false
open Go.RowKit
open Wd





end Go.Proofs.YtjajigkacccdgaaGreat
namespace Go.Proofs.YtjajigkacccdgaaGreat
set_option linter.unusedVariables false
set_option linter.unusedSimpArgs false
open Go.RowKit
open Wd



end Go.Proofs.YtjajigkacccdgaaGreat
namespace Go.Proofs.YtjajigkacccdgaaGreat
set_option linter.unusedVariables false
set_option linter.unusedSimpArgs false
open Go.RowKit
open Wd


end Go.Proofs.YtjajigkacccdgaaGreat
namespace Go.Proofs.YtjajigkacccdgaaGreat
set_option linter.unusedVariables false
set_option linter.unusedSimpArgs false
open Go.RowKit
open Wd

end Go.Proofs.YtjajigkacccdgaaGreat
namespace Go.Proofs.YtjajigkacccdgaaGreat
set_option linter.unusedVariables false
set_option linter.unusedSimpArgs false
open Go.RowKit
open Wd





end Go.Proofs.YtjajigkacccdgaaGreat
namespace Go.Proofs.YtjajigkacccdgaaGreat
set_option linter.unusedVariables false
set_option linter.unusedSimpArgs false
open Go.RowKit
open Wd




end Go.Proofs.YtjajigkacccdgaaGreat
namespace Go.Proofs.YtjajigkacccdgaaGreat
set_option linter.unusedVariables false
set_option linter.unusedSimpArgs false
open Go.RowKit
open Wd





/-- A rational in memory: its sign, where numerator and denominator lie. -/
abbrev QEnt := Bool × (Option Addr × Nat × Nat) × (Option Addr × Nat × Nat)







section
variable {B : Option Addr} {ps : List Rat} {w w' : World} {i : Nat} {es : List QEnt}




end
end Go.Proofs.YtjajigkacccdgaaGreat
namespace Go.Proofs.YtjajigkacccdgaaGreat
set_option linter.unusedVariables false
set_option linter.unusedSimpArgs false
open Go.RowKit
open Wd
end Go.Proofs.YtjajigkacccdgaaGreat