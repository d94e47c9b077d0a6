/-
Plain facts on sums, differences and products digit by digit in base 65536. No program occurs here; no conditions beyond those of each theorem. Plain facts on quotients digit by digit in base 65536. No program occurs here; no conditions beyond those of each theorem. The reference of layer 1 at numbers of any size: add, sub, times. The reference of layer 1 at numbers of any size: small, back, mul. The reference of layer 1 at numbers of any size: mul. The reference of layer 1 at numbers of any size: div. The reference of layer 1 at numbers of any size: div by one digit, and by many. The reference of layer 1 at numbers of any size: div by many digits; div whole. The reference of layer 1 at integers of any size: Sign, Abs, Neg, Least, Gcd. The reference of layer 1 at integers of any size: Gcd, Div without rest, Cmp of positive numbers. The reference of layer 1 at integers of any size: Div without rest, Cmp of positive numbers. The reference of layer 1 at integers of any size: Cmp of positive numbers. The reference of layer 2 at rationals of any size: one, den, num. The reference of layer 2 at rationals of any size: over. The reference of layer 2 at rationals of any size: Least, Of, Neg, Sign. The reference of layer 2 at rationals of any size: Of, Neg, Sign. The reference of layer 1 at integers of any size: Mul, Add. Rationals whose size is counted in words: sums and products add their sizes. Abs of the packages whole and frac. Rationals as arguments of the statements: rows of rationals of s words; Abs, lesser steps. clear.total: money and quantity of one side of a trade, whatever the sizes. step.Cost over rationals, and clear.total over rationals where a quantity is refused. No statement of the seat is proved here; no conditions beyond those of each theorem.
-/
import Derived.Test.YtjajigkacccdgaaGreatTdBU
import Derived.Deep.CutRange
import Derived.Deep.DeepCutAuto
import Derived.Deep.DrawnRows
import Derived.Test.YtjajigkacccdgaaGreatTdAK
import Derived.Test.YtjajigkacccdgaaGreatTdAH
import Derived.Test.YtjajigkacccdgaaGreatTdBD
import Derived.Test.YtjajigkacccdgaaGreatTdBT
import Derived.Test.YtjajigkacccdgaaGreatTdAL
import Derived.Test.YtjajigkacccdgaaGreatTdAM
import Derived.Test.YtjajigkacccdgaaGreatTdAC
import Derived.Test.YtjajigkacccdgaaGreatTdBE
import Derived.Test.YtjajigkacccdgaaGreatTdAJ
import Derived.Test.YtjajigkacccdgaaGreatTdBO
import Derived.Test.YtjajigkacccdgaaGreatTdBP
namespace Go.Proofs.YtjajigkacccdgaaGreat
set_option linter.unusedVariables false
set_option linter.unusedSimpArgs false
open Go.RowKit
open Wd

theorem mod_dg (a i : Nat) : a % 65536 ^ (i + 1) = a % 65536 ^ i + 65536 ^ i * dg a i := mod_step a i
/-- The sum so far. -/
def AddI (a b i : Nat) (hs : List Int) (cy : Nat) : Prop := hs.length = i ∧ Dg hs ∧ vh hs + 65536 ^ i * cy = a % 65536 ^ i + b % 65536 ^ i ∧ cy ≤ 1



theorem AddI.done {a b i : Nat} {hs : List Int} (h : AddI a b i hs 0) (ha : a < 65536 ^ i) (hb : b < 65536 ^ i) : vh hs = a + b := by
 have := h.2.2.1
 rw [Nat.mod_eq_of_lt ha, Nat.mod_eq_of_lt hb] at this
 omega

/-- The difference so far. -/
def SubI (a b i : Nat) (hs : List Int) (lt : Nat) : Prop := hs.length = i ∧ Dg hs ∧ vh hs + b % 65536 ^ i = a % 65536 ^ i + 65536 ^ i * lt ∧ lt ≤ 1



theorem SubI.done {a b i lt : Nat} {hs : List Int} (h : SubI a b i hs lt) (ha : a < 65536 ^ i) (hb : b ≤ a) : vh hs = a - b := by
 obtain ⟨h1, h2, h3, h4⟩ := h
 have hl := vh_lt h2
 rw [h1] at hl
 rw [Nat.mod_eq_of_lt ha, Nat.mod_eq_of_lt (by omega)] at h3
 obtain rfl | rfl : lt = 0 ∨ lt = 1 := by omega
 ·omega
 ·omega

/-- The product by a small factor so far. -/
def TimI (b n i : Nat) (hs : List Int) (cy : Nat) : Prop := hs.length = i ∧ Dg hs ∧ vh hs + 65536 ^ i * cy = b % 65536 ^ i * n ∧ cy < 65536



theorem TimI.done {b n i : Nat} {hs : List Int} (h : TimI b n i hs 0) (hb : b < 65536 ^ i) : vh hs = b * n := by
 have := h.2.2.1
 rw [Nat.mod_eq_of_lt hb] at this
 omega

end Go.Proofs.YtjajigkacccdgaaGreat
namespace Go.Proofs.YtjajigkacccdgaaGreat
set_option linter.unusedVariables false
set_option linter.unusedSimpArgs false
open Go.RowKit
open Wd
/-- PLAIN: the digits of a number, listed. -/
theorem vh_list (v : Nat) : ∀ n, vh ((List.range n).map fun j => ((dg v j : Nat) : Int)) = v % 65536 ^ n
 | 0 => by simp [vh, Nat.mod_one]
 | n + 1 => by
  rw [List.range_succ, List.map_append, List.map_cons, List.map_nil, vh_snoc, vh_list v n, mod_dg]
  simp
theorem Dg_of {hs : List Int} {v : Nat} (h : ∀ j, j < hs.length → hs[j]?.getD 0 = ((dg v j : Nat) : Int)) : Dg hs := fun j => by
 by_cases hj : j < hs.length
 ·rw [h j hj]; have := dg_lt v j; omega
 ·rw [List.getElem?_eq_none (by omega)]; simp
theorem vh_of {hs : List Int} {v : Nat} (h : ∀ j, j < hs.length → hs[j]?.getD 0 = ((dg v j : Nat) : Int)) (hv : v < 65536 ^ hs.length) : vh hs = v := by
 have e : hs = (List.range hs.length).map fun j => ((dg v j : Nat) : Int) := by
  apply List.ext_getElem (by simp)
  intro j h1 h2
  have := h j h1
  rw [List.getElem?_eq_getElem h1] at this
  simpa using this
 rw [e, vh_list, Nat.mod_eq_of_lt hv]
/-- The quotient's row: its digits from the place i on are there. -/
def QuoI (v n i : Nat) (hs : List Int) : Prop := hs.length = n ∧ ∀ j, i ≤ j → j < n → hs[j]?.getD 0 = ((dg v j : Nat) : Int)


theorem QuoI.done {v n : Nat} {hs : List Int} (h : QuoI v n 0 hs) (hv : v < 65536 ^ n) : Dg hs ∧ vh hs = v := by
 have e : ∀ j, j < hs.length → hs[j]?.getD 0 = ((dg v j : Nat) : Int) := fun j hj => h.2 j (Nat.zero_le _) (by rw [← h.1]; exact hj)
 exact ⟨Dg_of e, vh_of e (by rw [h.1]; exact hv)⟩







end Go.Proofs.YtjajigkacccdgaaGreat
namespace Go.Proofs.YtjajigkacccdgaaGreat
set_option linter.unusedVariables false
set_option linter.unusedSimpArgs false
open Go.RowKit
open Wd
/-- A number handed back as digits in new memory. -/
def RetF (w : World) (v : Nat) (e : Ending) (w' : World) : Prop := ∃ A n c, e = .returned (.slice A n c) ∧ HA w' A n c v ∧ Below w.heap.size w w' ∧ (n ≠ 0 → ∃ b o, A = some ⟨b, o, none⟩ ∧ w.heap.size ≤ b)
/-- A number handed back as digits. -/
def RetH (w : World) (v : Nat) (e : Ending) (w' : World) : Prop := ∃ A n c, e = .returned (.slice A n c) ∧ HA w' A n c v ∧ Below w.heap.size w w'
theorem RetF.h {w : World} {v : Nat} {e : Ending} {w' : World} (h : RetF w v e w') : RetH w v e w' := by
 obtain ⟨A, n, c, h1, h2, h3, _⟩ := h
 exact ⟨A, n, c, h1, h2, h3⟩







end Go.Proofs.YtjajigkacccdgaaGreat
namespace Go.Proofs.YtjajigkacccdgaaGreat
set_option linter.unusedVariables false
set_option linter.unusedSimpArgs false
open Go.RowKit
open Wd





theorem RA.cells {w : World} {A : Option Addr} {n c v : Nat} (h : RA w A n c v) (hn : n ≠ 0) : ∃ b o, A = some ⟨b, o, none⟩ ∧ b < w.heap.size ∧ ∀ j, j < n → w.cell? ⟨b, o + j, none⟩ = some (.int .i64 ((dg v j : Nat) : Int)) := by
 obtain ⟨hs, h1, h2, h3, h4⟩ := h
 obtain ⟨b, o, e, hb, hc⟩ := h1.2 hn
 refine ⟨b, o, e, hb, fun j hj => ?_⟩
 rw [hc j hj, vh_get h2, h3]
 rfl




end Go.Proofs.YtjajigkacccdgaaGreat
namespace Go.Proofs.YtjajigkacccdgaaGreat
set_option linter.unusedVariables false
set_option linter.unusedSimpArgs false
open Go.RowKit
open Wd








end Go.Proofs.YtjajigkacccdgaaGreat
namespace Go.Proofs.YtjajigkacccdgaaGreat
set_option linter.unusedVariables false
set_option linter.unusedSimpArgs false
open Go.RowKit
open Wd
/-- A block of ints that is written in place. -/
def DRow (w : World) (g : Nat) (xs : List Int) : Prop := Blk w g 3 (xs.map (Value.int .i64)).toArray
theorem DRow.cell {w : World} {g : Nat} {xs : List Int} (h : DRow w g xs) {i : Nat} (hi : i < xs.length) : w.cell? ⟨g, i, none⟩ = some (.int .i64 (xs[i]?.getD 0)) := by
 rw [Blk.cell h i]
 simp [hi]



theorem DRow.at {w : World} {g : Nat} {xs : List Int} {n : Nat} (h : DRow w g xs) (hl : xs.length = n) : IsAt w (some ⟨g, 0, none⟩) n xs :=
 ⟨hl, fun _ => ⟨g, 0, rfl, Blk.lt h, fun j hj => by rw [Nat.zero_add]; exact h.cell (by omega)⟩⟩







end Go.Proofs.YtjajigkacccdgaaGreat
namespace Go.Proofs.YtjajigkacccdgaaGreat
set_option linter.unusedVariables false
set_option linter.unusedSimpArgs false
open Go.RowKit
open Wd
end Go.Proofs.YtjajigkacccdgaaGreat
namespace Go.Proofs.YtjajigkacccdgaaGreat
set_option linter.unusedVariables false
set_option linter.unusedSimpArgs false
open Go.RowKit
open Wd


end Go.Proofs.YtjajigkacccdgaaGreat
namespace Go.Proofs.YtjajigkacccdgaaGreat
set_option linter.unusedVariables false
set_option linter.unusedSimpArgs false
open Go.RowKit
open Wd
/-- An integer in memory, in whatever words. -/
def ZK (w : World) (an : Bool) (A : Option Addr) (n : Nat) (z : Int) : Prop := ∃ l, Wat w A n l ∧ n ≤ 10000000000 ∧ sg an (val l) = z ∧ (hd z.natAbs).length ≤ 6000000000
section
variable {w w' : World} {an : Bool} {A : Option Addr} {n c : Nat} {z : Int}
theorem ZK.below (h : ZK w an A n z) (hb : Below w.heap.size w w') : ZK w' an A n z := by
 obtain ⟨l, h1, h2⟩ := h
 exact ⟨l, h1.below hb, h2⟩





end






end Go.Proofs.YtjajigkacccdgaaGreat
namespace Go.Proofs.YtjajigkacccdgaaGreat
set_option linter.unusedVariables false
set_option linter.unusedSimpArgs false
open Go.RowKit
open Wd


/-- The number that a slice reads as. -/
def readV (w : World) (t : Value) : Nat := match t with
 | .slice (some p) n _ => vh ((List.range n).map fun j => match w.cell? ⟨p.block, p.off + j, none⟩ with | some (.int _ z) => z | _ => 0)
 | _ => 0
theorem HA.read {w : World} {A : Option Addr} {n c v : Nat} (h : HA w A n c v) : readV w (.slice A n c) = v := by
 by_cases h0 : n = 0
 ·have hv := h.zero.1 h0
  subst h0
  subst hv
  cases A <;> rfl
 ·obtain ⟨b, o, rfl, hb, hc⟩ := h.ra.cells h0
  have hl := vh_list v n
  rw [Nat.mod_eq_of_lt h.ra.lt] at hl
  refine Eq.trans ?_ hl
  show vh _ = vh _
  congr 1
  apply List.map_congr_left
  intro j hj
  have := hc j (List.mem_range.1 hj)
  simp only [this]

end Go.Proofs.YtjajigkacccdgaaGreat
namespace Go.Proofs.YtjajigkacccdgaaGreat
set_option linter.unusedVariables false
set_option linter.unusedSimpArgs false
open Go.RowKit
open Wd


end Go.Proofs.YtjajigkacccdgaaGreat
namespace Go.Proofs.YtjajigkacccdgaaGreat
set_option linter.unusedVariables false
set_option linter.unusedSimpArgs false
open Go.RowKit
open Wd
end Go.Proofs.YtjajigkacccdgaaGreat
namespace Go.Proofs.YtjajigkacccdgaaGreat
set_option linter.unusedVariables false
set_option linter.unusedSimpArgs false
open Go.RowKit
open Wd
/-- A rational in memory as its two integers. -/
def QZ (w : World) (an : Bool) (A : Option Addr) (n : Nat) (bn : Bool) (B : Option Addr) (m : Nat) (na da : Int) : Prop := ZK w an A n na ∧ ZK w bn B m da
theorem QZ.below {w w' : World} {an bn : Bool} {A B : Option Addr} {n m : Nat} {na da : Int} (h : QZ w an A n bn B m na da) (hb : Below w.heap.size w w') : QZ w' an A n bn B m na da := ⟨h.1.below hb, h.2.below hb⟩



end Go.Proofs.YtjajigkacccdgaaGreat
namespace Go.Proofs.YtjajigkacccdgaaGreat
set_option linter.unusedVariables false
set_option linter.unusedSimpArgs false
open Go.RowKit
open Wd

end Go.Proofs.YtjajigkacccdgaaGreat
namespace Go.Proofs.YtjajigkacccdgaaGreat
set_option linter.unusedVariables false
set_option linter.unusedSimpArgs false
open Go.RowKit
open Wd
theorem RS4.lt {g : Nat} {t : TypeId} {W w : World} (h : RS4 g t W w) : g < w.heap.size := by
 obtain ⟨_, _, _, _, _, hx⟩ := h
 exact hx.lt




end Go.Proofs.YtjajigkacccdgaaGreat
namespace Go.Proofs.YtjajigkacccdgaaGreat
set_option linter.unusedVariables false
set_option linter.unusedSimpArgs false
open Go.RowKit
open Wd


end Go.Proofs.YtjajigkacccdgaaGreat
namespace Go.Proofs.YtjajigkacccdgaaGreat
set_option linter.unusedVariables false
set_option linter.unusedSimpArgs false
open Go.RowKit
open Wd
theorem RS.lt {g : Nat} {t : TypeId} {W w : World} (h : RS g t W w) : g < w.heap.size := by
 obtain ⟨_, _, _, hx⟩ := h
 exact hx.lt





end Go.Proofs.YtjajigkacccdgaaGreat
namespace Go.Proofs.YtjajigkacccdgaaGreat
set_option linter.unusedVariables false
set_option linter.unusedSimpArgs false
open Go.RowKit
open Wd
/-- The bound of s words. -/
def WB (s : Nat) : Nat := 4294967296 ^ s


theorem wb_mono {a b : Nat} (h : a ≤ b) : WB a ≤ WB b := Nat.pow_le_pow_right (by decide) h
theorem wb_add (s t : Nat) : WB s * WB t = WB (s + t) := (Nat.pow_add _ _ _).symm
theorem wb_mul (s t : Nat) : 2 * (WB s * WB t) ≤ WB (s + t + 1) := by
 rw [wb_add]
 unfold WB
 rw [Nat.pow_succ, Nat.mul_comm]
 exact Nat.mul_le_mul_left _ (by decide)
theorem wb_ok {s : Nat} (h : s ≤ 10000000000) : WOK (WB s) := wok_words s h

theorem wb_three : 18446744073709551616 < WB 3 := by decide

/-- A rational of s words. -/
def Ls (s : Nat) (q : Rat) : Prop := q.num.natAbs < WB s ∧ q.den < WB s
theorem Lv.ls {k : Nat} {q : Rat} (h : Lv k q) : Ls (7 * 3 ^ k) q := h
theorem Ls.lv {k : Nat} {q : Rat} (h : Ls (7 * 3 ^ k) q) : Lv k q := h
theorem Ls.mono {a b : Nat} {q : Rat} (h : Ls a q) (hab : a ≤ b) : Ls b q := ⟨Nat.lt_of_lt_of_le h.1 (wb_mono hab), Nat.lt_of_lt_of_le h.2 (wb_mono hab)⟩
theorem ls_int {s : Nat} (hs : 3 ≤ s) {z : Int} (h : z.natAbs ≤ 18446744073709551616) : Ls s (z : Rat) := by
 refine Ls.mono (a := 3) ⟨?_, ?_⟩ hs
 ·rw [Rat.num_intCast]; exact Nat.lt_of_le_of_lt h wb_three
 ·rw [Rat.den_intCast]; exact Nat.lt_trans (by decide) wb_three
section
variable {s t : Nat} {a b : Rat}
theorem Ls.dd (ha : Ls s a) (hb : Ls t b) : ((a.den : Int) * (b.den : Int)).natAbs ≠ 0 ∧ ((a.den : Int) * (b.den : Int)).natAbs < WB (s + t + 1) := by
 rw [Int.natAbs_mul, Int.natAbs_natCast, Int.natAbs_natCast]
 refine ⟨Nat.mul_ne_zero a.den_nz b.den_nz, ?_⟩
 have := wb_mul s t
 have := Nat.mul_lt_mul'' ha.2 hb.2
 omega
theorem Ls.sub (ha : Ls s a) (hb : Ls t b) : Ls (s + t + 1) (a - b) := by
 obtain ⟨h0, h1⟩ := ha.dd hb
 rw [Lv.self a, Lv.self b, rat_sub _ _ _ _ (by have := a.den_pos; omega) (by have := b.den_pos; omega)]
 refine lv_mk h0 ?_ h1
 have e1 := bound_mul2 (a := a.num) (b := (b.den : Int)) ha.1 (by rw [Int.natAbs_natCast]; exact hb.2) (wb_mul s t)
 have e2 := bound_mul2 (a := b.num) (b := (a.den : Int)) hb.1 (by rw [Int.natAbs_natCast]; exact ha.2) (wb_mul t s)
 rw [Nat.add_comm t s] at e2
 omega
theorem Ls.add (ha : Ls s a) (hb : Ls t b) : Ls (s + t + 1) (a + b) := by
 obtain ⟨h0, h1⟩ := ha.dd hb
 rw [Lv.self a, Lv.self b, rat_add _ _ _ _ (by have := a.den_pos; omega) (by have := b.den_pos; omega)]
 refine lv_mk h0 ?_ h1
 have e1 := bound_mul2 (a := a.num) (b := (b.den : Int)) ha.1 (by rw [Int.natAbs_natCast]; exact hb.2) (wb_mul s t)
 have e2 := bound_mul2 (a := b.num) (b := (a.den : Int)) hb.1 (by rw [Int.natAbs_natCast]; exact ha.2) (wb_mul t s)
 rw [Nat.add_comm t s] at e2
 omega
theorem Ls.mul (ha : Ls s a) (hb : Ls t b) : Ls (s + t + 1) (a * b) := by
 obtain ⟨h0, h1⟩ := ha.dd hb
 rw [Lv.self a, Lv.self b, rat_mul]
 refine lv_mk h0 ?_ h1
 have e1 := bound_mul2 ha.1 hb.1 (wb_mul s t)
 omega
end
/-- An operand of s words. -/
def QS (s : Nat) (w : World) (neg : Bool) (A : Option Addr) (n c : Nat) (neg' : Bool) (A' : Option Addr) (n' c' : Nat) (q : Rat) : Prop := QAt (WB s) (WB s) w neg A n c neg' A' n' c' q
section
variable {k j s t : Nat} {w w' : World} {an an' bn bn' : Bool} {aA aA' bA bA' : Option Addr} {ak ac ak' ac' bk bc bk' bc' : Nat} {q qa qb : Rat}
theorem QK.qs (h : QK k w an aA ak ac an' aA' ak' ac' q) : QS (7 * 3 ^ k) w an aA ak ac an' aA' ak' ac' q := h
theorem QS.below (h : QS s w an aA ak ac an' aA' ak' ac' q) (hb : Below w.heap.size w w') : QS s w' an aA ak ac an' aA' ak' ac' q := QAt.below h hb
theorem QS.mono (h : QS s w an aA ak ac an' aA' ak' ac' q) (hst : s ≤ t) : QS t w an aA ak ac an' aA' ak' ac' q := by
 obtain ⟨na, da, h1, h2, h3, h4⟩ := h
 exact ⟨na, da, h1, Nat.lt_of_lt_of_le h2 (wb_mono hst), Nat.lt_of_lt_of_le h3 (wb_mono hst), h4⟩
theorem QS.ls (h : QS s w an aA ak ac an' aA' ak' ac' q) : Ls s q := by
 obtain ⟨na, da, h1, h2, h3, rfl⟩ := h
 exact lv_mk (den_nz da) h2 h3
theorem RQ.qs {A A' : Option Addr} {k c k' c' : Nat} (h : RQ w q A k c A' k' c') (hq : Ls s q) (hs : s ≤ 10000000000) : QS s w (decide (q.num < 0)) A k c false A' k' c' q :=
 qat_len (wb_ok hs) (Nat.le_refl _) (Nat.le_refl _) h.1 h.2.1 h.2.2.1 h.2.2.2 hq.1 hq.2
theorem sub_s (hs : s ≤ 1000000000) (ha : QS s w an aA ak ac an' aA' ak' ac' qa) (hb : QS s w bn bA bk bc bn' bA' bk' bc' qb) :
  Calls Tryz.prog 55 #[.agg #[.bool an, .slice aA ak ac, .bool an', .slice aA' ak' ac'], .agg #[.bool bn, .slice bA bk bc, .bool bn', .slice bA' bk' bc']] w (RetQ w (qa - qb)) :=
 qsub_any (WB (s + s + 1)) (WB s) (WB s) (wb_ok (by omega)) (wb_mul s s) (by have := wb_mul s s; omega) _ _ _ _ _ _ _ _ _ _ _ _ _ _ _ _ _ _ _ ha hb
theorem add_s (hs : s ≤ 1000000000) (ha : QS s w an aA ak ac an' aA' ak' ac' qa) (hb : QS s w bn bA bk bc bn' bA' bk' bc' qb) :
  Calls Tryz.prog 42 #[.agg #[.bool an, .slice aA ak ac, .bool an', .slice aA' ak' ac'], .agg #[.bool bn, .slice bA bk bc, .bool bn', .slice bA' bk' bc']] w (RetQ w (qa + qb)) :=
 qadd_any (WB (s + s + 1)) (WB s) (WB s) (wb_ok (by omega)) (wb_mul s s) (by have := wb_mul s s; omega) _ _ _ _ _ _ _ _ _ _ _ _ _ _ _ _ _ _ _ ha hb

theorem min_s (hs : s ≤ 10000000000) (ha : QS s w an aA ak ac an' aA' ak' ac' qa) (hb : QS s w bn bA bk bc bn' bA' bk' bc' qb) :
  Calls Tryz.prog 85 #[.agg #[.bool an, .slice aA ak ac, .bool an', .slice aA' ak' ac'], .agg #[.bool bn, .slice bA bk bc, .bool bn', .slice bA' bk' bc']] w (RetQ w (if qb < qa then qb else qa)) :=
 qmin_any (WB s) (WB s) (WB s) (wb_ok hs) (Nat.le_refl _) (Nat.le_refl _) _ _ _ _ _ _ _ _ _ _ _ _ _ _ _ _ _ _ _ ha hb
theorem cmp_s (ha : QS s w an aA ak ac an' aA' ak' ac' qa) (hb : QS s w bn bA bk bc bn' bA' bk' bc' qb) :
  Calls Tryz.prog 43 #[.agg #[.bool an, .slice aA ak ac, .bool an', .slice aA' ak' ac'], .agg #[.bool bn, .slice bA bk bc, .bool bn', .slice bA' bk' bc']] w fun e w' => e = .returned (.int .i64 (cmpQ qa qb)) ∧ Below w.heap.size w w' :=
 qcmp_any _ _ _ _ _ _ _ _ _ _ _ _ _ _ _ _ _ _ _ ha hb
theorem eq_s (ha : QS s w an aA ak ac an' aA' ak' ac' qa) (hb : QS s w bn bA bk bc bn' bA' bk' bc' qb) :
  Calls Tryz.prog 44 #[.agg #[.bool an, .slice aA ak ac, .bool an', .slice aA' ak' ac'], .agg #[.bool bn, .slice bA bk bc, .bool bn', .slice bA' bk' bc']] w fun e w' => e = .returned (.bool (decide (qa = qb))) ∧ Below w.heap.size w w' :=
 qequal_any _ _ _ _ _ _ _ _ _ _ _ _ _ _ _ _ _ _ _ ha hb

end

end Go.Proofs.YtjajigkacccdgaaGreat
namespace Go.Proofs.YtjajigkacccdgaaGreat
set_option linter.unusedVariables false
set_option linter.unusedSimpArgs false
open Go.RowKit
open Wd




end Go.Proofs.YtjajigkacccdgaaGreat
namespace Go.Proofs.YtjajigkacccdgaaGreat
set_option linter.unusedVariables false
set_option linter.unusedSimpArgs false
open Go.RowKit
open Wd
theorem qk_raw {W : World} {an an' : Bool} {A A' : Option Addr} {n c n' c' : Nat} {l l' : List Nat} (h : Wat W A n l) (h' : Wat W A' n' l') (hc : n ≤ c) (hc' : n' ≤ c') (hn : n ≤ 6) (hn' : n' ≤ 6) : ∃ q, QK 0 W an A n c an' A' n' c' q := by
 have v1 := val_lt h.2.1
 have v2 := val_lt h'.2.1
 rw [h.1] at v1
 rw [h'.1] at v2
 have v3 := Nat.lt_of_lt_of_le v1 (Nat.pow_le_pow_right (by decide : 0 < 4294967296) hn)
 have v4 := Nat.lt_of_lt_of_le v2 (Nat.pow_le_pow_right (by decide : 0 < 4294967296) hn')
 have v5 : 4294967296 ^ 6 + 1 ≤ PB 0 := by decide
 have b1 : (qnum (sg an (val l)) (sg an' (val l'))).natAbs = val l := by
  have := sg_natAbs an (val l)
  unfold qnum
  split <;> omega
 have b2 : (qden (sg an' (val l'))).natAbs ≤ val l' + 1 := by
  have := sg_natAbs an' (val l')
  unfold qden
  split <;> (try split) <;> omega
 exact ⟨_, _, _, ⟨l, l', h, h', hc, hc', by omega, by omega, rfl, rfl⟩, by omega, by omega, rfl⟩
theorem QRaw.qs {w : World} {A A' : Option Addr} {n c n' c' : Nat} (h : QRaw w A n c A' n' c') (an an' : Bool) (hn : n ≤ 6) (hn' : n' ≤ 6) : ∃ q, QS 7 w an A n c an' A' n' c' q := by
 obtain ⟨l, l', h1, h2, h3, h4⟩ := h
 exact qk_raw h1 h2 h3 h4 hn hn'
theorem QS.arg {s : Nat} {w : World} {an an' : Bool} {aA aA' : Option Addr} {ak ac ak' ac' : Nat} {q : Rat} (h : QS s w an aA ak ac an' aA' ak' ac' q) : QArg w an aA ak ac an' aA' ak' ac' q := ⟨_, _, h⟩
theorem RQ.arg {s : Nat} {w : World} {q : Rat} {A A' : Option Addr} {k c k' c' : Nat} (h : RQ w q A k c A' k' c') (hq : Ls s q) (hs : s ≤ 10000000000) : QArg w (decide (q.num < 0)) A k c false A' k' c' q := (h.qs hq hs).arg



/-- A row of rationals of s words. -/
def QsS (s : Nat) (w : World) (A : Option Addr) (n : Nat) (qs : List Rat) : Prop :=
 qs.length = n ∧ (n ≠ 0 → ∃ b o, A = some ⟨b, o, none⟩ ∧ b < w.heap.size ∧ ∀ j, j < n → ∃ an aA ak ac an' aA' ak' ac', w.cell? ⟨b, o + j * 4, none⟩ = some (.bool an) ∧ w.cell? ⟨b, o + j * 4 + 1, none⟩ = some (.slice aA ak ac) ∧ w.cell? ⟨b, o + j * 4 + 2, none⟩ = some (.bool an') ∧ w.cell? ⟨b, o + j * 4 + 3, none⟩ = some (.slice aA' ak' ac') ∧ QS s w an aA ak ac an' aA' ak' ac' (qs[j]?.getD 0))
theorem QsS.below {s : Nat} {w w' : World} {A : Option Addr} {n : Nat} {qs : List Rat} (h : QsS s w A n qs) (hb : Below w.heap.size w w') : QsS s w' A n qs := by
 refine ⟨h.1, fun hn => ?_⟩
 obtain ⟨b, o, rfl, hlt, hc⟩ := h.2 hn
 refine ⟨b, o, rfl, Nat.lt_of_lt_of_le hlt hb.size, fun j hj => ?_⟩
 obtain ⟨an, aA, ak, ac, an', aA', ak', ac', h1, h2, h3, h4, h5⟩ := hc j hj
 exact ⟨an, aA, ak, ac, an', aA', ak', ac', (hb.cell hlt).trans h1, (hb.cell hlt).trans h2, (hb.cell hlt).trans h3, (hb.cell hlt).trans h4, h5.below hb⟩

end Go.Proofs.YtjajigkacccdgaaGreat

namespace Go.Proofs.YtjajigkacccdgaaGreat
set_option linter.unusedVariables false
set_option linter.unusedSimpArgs false
open Go.RowKit
open Wd
attribute [local go_sem ↓] Go.wp_at_zero Go.wp_at_succ

/-- Money in box g, quantity in box g'. -/
def TotR (w : World) (g g' : Nat) (m s : Rat) (A : Option Addr) (j c : Nat) (A' : Option Addr) (j' c' : Nat) (B : Option Addr) (i d : Nat) (B' : Option Addr) (i' d' : Nat) (wr : World) : Prop :=
 Below w.heap.size w wr ∧ Blk wr g 42 #[.bool (decide ((m).num < 0)), .slice A j c, .bool false, .slice A' j' c'] ∧ CQ w.heap.size wr m A j c A' j' c' ∧ Blk wr g' 42 #[.bool (decide ((s).num < 0)), .slice B i d, .bool false, .slice B' i' d'] ∧ CQ w.heap.size wr s B i d B' i' d'
section
variable {w wr : World} {g g' : Nat} {m s : Rat} {A A' B B' : Option Addr} {j c j' c' i d i' d' : Nat}
theorem TotR.drew (h : TotR w g g' m s A j c A' j' c' B i d B' i' d' wr) : TotR w g g' m s A j c A' j' c' B i d B' i' d' wr.drew :=
 ⟨h.1.drew, h.2.1, h.2.2.1.below (Kp.drew (Kp.refl wr)), h.2.2.2.1, h.2.2.2.2.below (Kp.drew (Kp.refl wr))⟩
theorem TotR.call {w' : World} (h : TotR w g g' m s A j c A' j' c' B i d B' i' d' wr) (hb : Below wr.heap.size wr w') : TotR w g g' m s A j c A' j' c' B i d B' i' d' w' :=
 ⟨h.1.trans (hb.mono h.1.size), h.2.1.below hb h.2.1.lt, h.2.2.1.below hb, h.2.2.2.1.below hb h.2.2.2.1.lt, h.2.2.2.2.below hb⟩
theorem TotR.put1 {m2 : Rat} {A2 A2' : Option Addr} {j2 c2 j2' c2' : Nat} (h : TotR w g g' m s A j c A' j' c' B i d B' i' d' wr) (hg : w.heap.size ≤ g) (hne : g' ≠ g) (h2 : CQ w.heap.size wr m2 A2 j2 c2 A2' j2' c2') :
  TotR w g g' m2 s A2 j2 c2 A2' j2' c2' B i d B' i' d' ((((wr.setCell ⟨g, 0, none⟩ (.bool (decide ((m2).num < 0)))).setCell ⟨g, 1, none⟩ (.slice A2 j2 c2)).setCell ⟨g, 2, none⟩ (.bool false)).setCell ⟨g, 3, none⟩ (.slice A2' j2' c2')) := by
 have e : ((((wr.setCell ⟨g, 0, none⟩ (.bool (decide ((m2).num < 0)))).setCell ⟨g, 1, none⟩ (.slice A2 j2 c2)).setCell ⟨g, 2, none⟩ (.bool false)).setCell ⟨g, 3, none⟩ (.slice A2' j2' c2')) = qst wr g 0 (decide (m2.num < 0)) false A2 A2' j2 c2 j2' c2' := rfl
 rw [e]
 exact ⟨below_qst h.1 hg, h.2.1.put4, h2.put4 h.2.1 NoInt.four, h.2.2.2.1.far4 hne, h.2.2.2.2.put4 h.2.1 NoInt.four⟩
theorem TotR.put2 {s2 : Rat} {B2 B2' : Option Addr} {i2 d2 i2' d2' : Nat} (h : TotR w g g' m s A j c A' j' c' B i d B' i' d' wr) (hg : w.heap.size ≤ g') (hne : g ≠ g') (h2 : CQ w.heap.size wr s2 B2 i2 d2 B2' i2' d2') :
  TotR w g g' m s2 A j c A' j' c' B2 i2 d2 B2' i2' d2' ((((wr.setCell ⟨g', 0, none⟩ (.bool (decide ((s2).num < 0)))).setCell ⟨g', 1, none⟩ (.slice B2 i2 d2)).setCell ⟨g', 2, none⟩ (.bool false)).setCell ⟨g', 3, none⟩ (.slice B2' i2' d2')) := by
 have e : ((((wr.setCell ⟨g', 0, none⟩ (.bool (decide ((s2).num < 0)))).setCell ⟨g', 1, none⟩ (.slice B2 i2 d2)).setCell ⟨g', 2, none⟩ (.bool false)).setCell ⟨g', 3, none⟩ (.slice B2' i2' d2')) = qst wr g' 0 (decide (s2.num < 0)) false B2 B2' i2 d2 i2' d2' := rfl
 rw [e]
 exact ⟨below_qst h.1 hg, h.2.1.far4 hne, h.2.2.1.put4 h.2.2.2.1 NoInt.four, h.2.2.2.1.put4, h2.put4 h.2.2.2.1 NoInt.four⟩
end

end Go.Proofs.YtjajigkacccdgaaGreat
namespace Go.Proofs.YtjajigkacccdgaaGreat
set_option linter.unusedVariables false
set_option linter.unusedSimpArgs false
open Go.RowKit
open Wd
attribute [local go_sem ↓] Go.wp_at_zero Go.wp_at_succ
theorem ls_zero (s : Nat) (hs : 1 ≤ s) : Ls s (0 : Rat) := by
 have h1 : WB 1 ≤ WB s := wb_mono hs
 have h2 : WB 1 = 4294967296 := rfl
 refine ⟨?_, ?_⟩
 ·show 0 < WB s
  omega
 ·show 1 < WB s
  omega
theorem costAt_ls {s : Nat} {l : List (Int × Int)} {q : Rat} (hp : ∀ k, k < l.length → Ls s (partAt l q k)) (hpr : ∀ x ∈ l, x.2.natAbs ≤ 18446744073709551616) : ∀ k, k ≤ l.length → Ls (k * (s + 6) + 1) (costAt l q k)
 | 0, _ => ls_zero _ (by omega)
 | k + 1, hk => by
  have ih := costAt_ls hp hpr k (by omega)
  have h1 := (hp k (by omega)).mul (ls_int (Nat.le_refl 3) (hpr _ (getD_mem (d := (0, 0)) (show k < l.length by omega))))
  rw [costAt]
  exact (ih.add h1).mono (by rw [Nat.succ_mul]; omega)
theorem bad_price {l : List (Int × Int)} (hok : ∀ s ∈ l, ¬ Bad s.1 s.2) : ∀ x ∈ l, x.2.natAbs ≤ 18446744073709551616 := fun x hx => by
 have := hok x hx
 unfold Bad at this
 omega
/-- The sizes of Cost over rationals of s words, at up to L steps. -/
theorem costOK_s {s L : Nat} (hs : 3 ≤ s) (hL : 1 ≤ L) {l : List (Int × Int)} {q : Rat} (hl : l.length ≤ L) (hp : ∀ k, k < l.length → Ls s (partAt l q k)) (hpr : ∀ x ∈ l, x.2.natAbs ≤ 18446744073709551616) :
  CostOK (WB (2 * (L * (s + 6) + 1) + 1)) (WB s) (WB s) (WB (L * (s + 6) + 1)) (WB (L * (s + 6) + 1)) l q := by
 have h3 := wb_three
 have h3s := wb_mono hs
 have hLs : s + 6 ≤ L * (s + 6) := Nat.le_mul_of_pos_left _ hL
 have m1 := wb_mul s s
 have m2 := wb_mul (L * (s + 6) + 1) (L * (s + 6) + 1)
 have k1 : WB (s + s + 1) ≤ WB (2 * (L * (s + 6) + 1) + 1) := wb_mono (by omega)
 have k2 : WB (L * (s + 6) + 1 + (L * (s + 6) + 1) + 1) ≤ WB (2 * (L * (s + 6) + 1) + 1) := wb_mono (by omega)
 have k3 : WB s ≤ WB (2 * (L * (s + 6) + 1) + 1) := wb_mono (by omega)
 have k4 : WB (L * (s + 6) + 1) ≤ WB (2 * (L * (s + 6) + 1) + 1) := wb_mono (by omega)
 refine ⟨by omega, k3, by omega, by omega, by omega, by omega, k3, k3, by omega, by omega, k4, k4, fun k hk => ?_, fun k hk => ?_⟩
 ·exact (costAt_ls hp hpr k hk).mono (by have := Nat.mul_le_mul_right (s + 6) (Nat.le_trans hk hl); omega)
 ·exact ((hp k hk).mul (ls_int (Nat.le_refl 3) (hpr _ (getD_mem (d := (0, 0)) hk)))).mono (by omega)
theorem scost_s {s : Nat} (hs : 3 ≤ s) (hs2 : s ≤ 100000) (A : Option Addr) (n c : Nat) (l : List (Int × Int)) (an an' : Bool) (aA aA' : Option Addr) (ak ac ak' ac' : Nat) (q : Rat) (w : World) (h : StAt w A n l) (hq : QS s w an aA ak ac an' aA' ak' ac' q) (he : curveE l = 0) (h0 : 0 ≤ q) (h1 : q ≤ (qsum l : Int)) :
  Calls Tryz.prog 41 #[.slice A n c, .agg #[.bool an, .slice aA ak ac, .bool an', .slice aA' ak' ac']] w (CstPost w (costAt l q n)) := by
 obtain ⟨hn0, hn3, hok⟩ := curve_ok he
 have h3 := wb_three
 have h3s := wb_mono hs
 have hl := hq.ls
 exact scost_ok (WB (2 * (3 * (s + 6) + 1) + 1)) (WB s) (WB s) (WB (3 * (s + 6) + 1)) (WB (3 * (s + 6) + 1)) (wb_ok (by omega)) A n c l an an' aA aA' ak ac ak' ac' q w h hq he h0 h1
  (costOK_s hs (by decide) (by omega) (fun k hk => partAt_bd h0 hok hl.1 hl.2 (by omega) (by omega) hk) (bad_price hok))
theorem pick_lt {α : Type} (d : α) {n : Nat} {P : Nat → α → Prop} (h : ∀ j, j < n → ∃ x, P j x) : ∃ F : Nat → α, ∀ j, j < n → P j (F j) := by
 classical
 exact ⟨fun j => if hj : j < n then (h j hj).choose else d, fun j hj => by simp only [dif_pos hj]; exact (h j hj).choose_spec⟩
/-- A row of rationals, its cells told. -/
theorem QsS.raw {s : Nat} {w : World} {A : Option Addr} {n : Nat} {ps : List Rat} (h : QsS s w A n ps) : ∃ es : List QE, QsAtR w A n es ∧ ∀ j, j < n → QS s w (es[j]?.getD QE0).1 (es[j]?.getD QE0).2.1.1 (es[j]?.getD QE0).2.1.2.1 (es[j]?.getD QE0).2.1.2.2 (es[j]?.getD QE0).2.2.1 (es[j]?.getD QE0).2.2.2.1 (es[j]?.getD QE0).2.2.2.2.1 (es[j]?.getD QE0).2.2.2.2.2 (ps[j]?.getD 0) := by
 by_cases hn : n = 0
 ·subst hn
  exact ⟨[], ⟨rfl, fun h0 => absurd rfl h0⟩, fun j hj => absurd hj (by omega)⟩
 ·obtain ⟨b, o, rfl, hb, hc⟩ := h.2 hn
  have each : ∀ j, j < n → ∃ e : QE, (w.cell? ⟨b, o + j * 4, none⟩ = some (.bool e.1) ∧ w.cell? ⟨b, o + j * 4 + 1, none⟩ = some (.slice e.2.1.1 e.2.1.2.1 e.2.1.2.2) ∧ w.cell? ⟨b, o + j * 4 + 2, none⟩ = some (.bool e.2.2.1) ∧ w.cell? ⟨b, o + j * 4 + 3, none⟩ = some (.slice e.2.2.2.1 e.2.2.2.2.1 e.2.2.2.2.2)) ∧
    QS s w e.1 e.2.1.1 e.2.1.2.1 e.2.1.2.2 e.2.2.1 e.2.2.2.1 e.2.2.2.2.1 e.2.2.2.2.2 (ps[j]?.getD 0) := fun j hj => by
   obtain ⟨an, aA, ak, ac, an', aA', ak', ac', h1, h2, h3, h4, h5⟩ := hc j hj
   exact ⟨(an, (aA, ak, ac), an', (aA', ak', ac')), ⟨h1, h2, h3, h4⟩, h5⟩
  obtain ⟨F, hF⟩ := pick_lt QE0 each
  have e1 : ∀ j, j < n → ((List.range n).map F)[j]?.getD QE0 = F j := fun j hj => by simp [hj]
  exact ⟨(List.range n).map F, ⟨by simp, fun _ => ⟨b, o, rfl, hb, fun j hj => by rw [e1 j hj]; exact (hF j hj).1⟩⟩, fun j hj => by rw [e1 j hj]; exact (hF j hj).2⟩
end Go.Proofs.YtjajigkacccdgaaGreat