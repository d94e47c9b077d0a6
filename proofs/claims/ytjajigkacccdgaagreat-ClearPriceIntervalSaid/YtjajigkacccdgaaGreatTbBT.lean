/-
Plain law of ClearPriceInterval: between two prices that clear, and nearest to zero. Contract of Clears of package clear. Rationals of growing size: every operation rises by one level. Canonical rationals in memory, at any size. Plain facts on numbers written in base 65536, least digit first, as lists of integers. No program occurs here; no conditions beyond those of each theorem. The reference of layer 1 at numbers of any size: trim, at, halves, of, cmp. Plain facts on sums, differences and products digit by digit in base 65536. No program occurs here; no conditions beyond those of each theorem. Plain facts on quotients digit by digit in base 65536. No program occurs here; no conditions beyond those of each theorem. The reference of layer 1 at numbers of any size: add, sub, times. The reference of layer 1 at numbers of any size: small, back, mul. The reference of layer 1 at numbers of any size: mul. The reference of layer 1 at numbers of any size: div. The reference of layer 1 at numbers of any size: div by one digit, and by many. The reference of layer 1 at numbers of any size: div by many digits; div whole. The reference of layer 1 at integers of any size: Sign, Abs, Neg, Least, Gcd. The reference of layer 1 at integers of any size: Gcd, Div without rest, Cmp of positive numbers. The reference of layer 1 at integers of any size: Div without rest, Cmp of positive numbers. The reference of layer 1 at integers of any size: Cmp of positive numbers. The reference of layer 2 at rationals of any size: one, den, num. The reference of layer 2 at rationals of any size: over. The reference of layer 2 at rationals of any size: Least, Of, Neg, Sign. The reference of layer 2 at rationals of any size: Of, Neg, Sign. The reference of layer 1 at integers of any size: Mul, Add. Rationals whose size is counted in words: sums and products add their sizes. Rationals as arguments of the statements: rows of rationals of s words; Abs, lesser steps. No statement of the seat is proved here; no conditions beyond those of each theorem.
-/
import Derived.Test.YtjajigkacccdgaaGreatTbBS
import Derived.Test.YtjajigkacccdgaaGreatTbBN
import Derived.Test.YtjajigkacccdgaaGreatTbBA
import Derived.Test.YtjajigkacccdgaaGreatTbBH
import Derived.Test.YtjajigkacccdgaaGreatTbBE
import Derived.Deep.CutRange
import Derived.Deep.DeepCutAuto
import Derived.Deep.DrawnRows
import Derived.Test.YtjajigkacccdgaaGreatTbAL
import Derived.Test.YtjajigkacccdgaaGreatTbAI
import Derived.Test.YtjajigkacccdgaaGreatTbBF
import Derived.Test.YtjajigkacccdgaaGreatTbAM
import Derived.Test.YtjajigkacccdgaaGreatTbBM
namespace Go.Proofs.YtjajigkacccdgaaGreat
set_option linter.unusedVariables false
set_option linter.unusedSimpArgs false
open Go.RowKit
open Wd

theorem bal_between {os bs : List (List (Int × Int))} (ho : Pos os) (hb : Pos bs) {p q k : Rat} (h1 : balB os bs p = true) (h2 : balB os bs q = true) (k0 : 0 ≤ k) (k1 : k ≤ 1) : balB os bs (p + k * (q - p)) = true := by
 by_cases h : p ≤ q
 ·have a : 0 ≤ k * (q - p) := Rat.mul_nonneg k0 (by grind)
  have b : 0 ≤ (1 - k) * (q - p) := Rat.mul_nonneg (by grind) (by grind)
  exact bal_mid ho hb h1 h2 (by grind) (by grind)
 ·have a : 0 ≤ k * (p - q) := Rat.mul_nonneg k0 (by grind)
  have b : 0 ≤ (1 - k) * (p - q) := Rat.mul_nonneg (by grind) (by grind)
  exact bal_mid ho hb h2 h1 (by grind) (by grind)
theorem cmpQ_neg {a b : Rat} : cmpQ a b < 0 ↔ a < b := by
 constructor
 ·intro h
  by_cases h' : a < b
  ·exact h'
  ·exfalso
   by_cases e : a = b
   ·rw [cmpQ_zero.2 e] at h; omega
   ·rw [cmpQ_gt.2 (show b < a by grind)] at h; omega
 ·intro h
  rw [cmpQ_lt.2 h]
  decide
theorem absQ_int (p : Int) : absQ ((p : Int) : Rat) = ((absI p : Int) : Rat) := by
 unfold absQ absI
 by_cases h : p < 0
 ·rw [if_pos (by exact_mod_cast h), if_pos h, Rat.intCast_neg]
 ·rw [if_neg (by intro hh; exact h (by exact_mod_cast hh)), if_neg h]
theorem price_near {os bs : List (List (Int × Int))} {p : Int} (h : PrZ os bs p) (ho : Pos os) (hb : Pos bs) (ho' : PrB os) (hb' : PrB bs) {q : Rat} (hq : balB os bs q = true) : decide (cmpQ (absQ q) (absQ ((p : Int) : Rat)) < 0) = false := by
 rw [absQ_int]
 apply decide_eq_false
 rw [cmpQ_neg]
 have h1 := (h.near ho hb ho' hb').2 q hq
 have h2 : q ≤ absQ q ∧ -q ≤ absQ q := by
  unfold absQ
  split <;> grind
 grind
theorem part_bd (n : Nat) (h : n ≤ 255) : 0 ≤ mkRat (n : Int) (255 : Int).natAbs ∧ mkRat (n : Int) (255 : Int).natAbs ≤ 1 := by
 have e : mkRat (n : Int) (255 : Int).natAbs = ((n : Int) : Rat) / ((255 : Int) : Rat) := by
  rw [Rat.mkRat_eq_div]
  rfl
 have h1 : (0 : Rat) ≤ ((n : Int) : Rat) := by exact_mod_cast (show (0 : Int) ≤ (n : Int) by omega)
 have h2 : ((n : Int) : Rat) ≤ ((255 : Int) : Rat) := Rat.intCast_le_intCast.2 (by omega)
 have h3 : ((255 : Int) : Rat) = 255 := rfl
 rw [e, h3] at *
 constructor
 ·grind
 ·grind

end Go.Proofs.YtjajigkacccdgaaGreat

namespace Go.Proofs.YtjajigkacccdgaaGreat
set_option linter.unusedVariables false
set_option linter.unusedSimpArgs false
open Go.RowKit
open Wd

theorem clears_any (A B : Option Addr) (n c m d : Nat) (os bs : List (List (Int × Int))) (an an' : Bool) (aA aA' : Option Addr) (ak ac ak' ac' : Nat) (q : Rat) (w : World) (h : CsAt w A n os) (h' : CsAt w B m bs) (hq : QArg w an aA ak ac an' aA' ak' ac' q) (hs : ∀ l ∈ os, l.length ≤ 1000000000000) (ht : ∀ l ∈ bs, l.length ≤ 1000000000000) :
  Calls Tryz.prog 51 #[.slice A n c, .slice B m d, .agg #[.bool an, .slice aA ak ac, .bool an', .slice aA' ak' ac']] w fun e w' => e = .returned (.tuple #[.bool (decide (ckB os bs = 0) && balB os bs q), .int .i64 (ckB os bs)]) ∧ Below w.heap.size w w' := by
 have HC := Lib.hid (fun W (hW : Below w.heap.size w W) => ccheck_any A B n c m d os bs W (h.below hW) (h'.below hW) hs ht)
 by_cases hc : ckB os bs = 0
 ·obtain ⟨hl5, hl6, hco, hcb⟩ := ckB_iff.1 hc
  have HB := Lib.hid (fun W (hW : Below w.heap.size w W) => balances_any A B n c m d os bs an an' aA aA' ak ac ak' ac' q W (h.below hW) (h'.below hW) (hq.below hW) hco hcb (by have := h.1; omega) (by have := h'.1; omega))
  rw [hc] at HC
  rw [hc]
  simp only [decide_true, Bool.true_and]
  clear h h' hs ht hc hq hl5 hl6 hco hcb
  go_enter Tryz.func51, Tryz.ntmps51
  go_wp2_with fail
  have hbx := Blk.new w 42 #[.bool an, .slice aA ak ac, .bool an', .slice aA' ak' ac']
  have hb0 : Below w.heap.size w (w.alloc (.cells #[.bool an, .slice aA ak ac, .bool an', .slice aA' ak' ac'] 42)) := (Below.refl _ _).alloc (Nat.le_refl _) _
  generalize w.alloc (.cells #[.bool an, .slice aA ak ac, .bool an', .slice aA' ak' ac'] 42) = W0 at *
  refine (HC.out W0 hb0).mono ?_
  rintro e w1 ⟨rfl, hb1⟩
  obtain ⟨f0, f1, f2, f3, -, -, -, -⟩ := (hbx.below hb1 hbx.lt).four
  have HB1 := Lib.hid (hb0.trans (hb1.mono hb0.size))
  clear hbx hb0 hb1 HC
  go_wp2_with fail
  refine (HB.out w1 HB1.out).mono ?_
  rintro e w2 ⟨rfl, hb2⟩
  have HB2 := Lib.hid (HB1.out.trans (hb2.mono HB1.out.size))
  clear hb2 HB1 HB
  go_wp2
  refine bodyPost_ret (v := .tuple #[.bool (balB os bs q), .int .i64 0]) ?_ rfl ⟨rfl, HB2.out⟩
  simp [results, Tryz.results51, go_sem]
 ·rw [decide_eq_false hc, Bool.false_and]
  generalize ckB os bs = x at *
  have dx : (x != 0) = true := by simpa using hc
  clear h h' hs ht hc hq
  go_enter Tryz.func51, Tryz.ntmps51
  go_wp2_with fail
  have hb0 : Below w.heap.size w (w.alloc (.cells #[.bool an, .slice aA ak ac, .bool an', .slice aA' ak' ac'] 42)) := (Below.refl _ _).alloc (Nat.le_refl _) _
  generalize w.alloc (.cells #[.bool an, .slice aA ak ac, .bool an', .slice aA' ak' ac'] 42) = W0 at *
  refine (HC.out W0 hb0).mono ?_
  rintro e w1 ⟨rfl, hb1⟩
  have HB1 := Lib.hid (hb0.trans (hb1.mono hb0.size))
  clear hb0 hb1 HC
  go_wp2
  refine bodyPost_ret (v := .tuple #[.bool false, .int .i64 x]) ?_ rfl ⟨rfl, HB1.out⟩
  simp [results, Tryz.results51, go_sem]

end Go.Proofs.YtjajigkacccdgaaGreat

namespace Go.Proofs.YtjajigkacccdgaaGreat
set_option linter.unusedVariables false
set_option linter.unusedSimpArgs false
open Go.RowKit
open Wd

/-- The bound of level k. -/
def PB (k : Nat) : Nat := 4294967296 ^ (7 * 3 ^ k)



theorem pb_ok {k : Nat} (h : k ≤ 18) : WOK (PB k) := by
 refine wok_words _ ?_
 have : 3 ^ k ≤ 3 ^ 18 := Nat.pow_le_pow_right (by decide) h
 have h18 : (3 : Nat) ^ 18 = 387420489 := by decide
 omega
theorem pb_zero : 18446744073709551616 < PB 0 := by decide

/-- A rational of level k. -/
def Lv (k : Nat) (q : Rat) : Prop := q.num.natAbs < PB k ∧ q.den < PB k


theorem lv_mk {n : Int} {d N : Nat} (hd : d ≠ 0) (h1 : n.natAbs < N) (h2 : d < N) : (mkRat n d).num.natAbs < N ∧ (mkRat n d).den < N := by
 rw [mk_num _ _ hd, mk_den _ _ hd, Int.natAbs_tdiv, Int.natAbs_natCast]
 exact ⟨Nat.lt_of_le_of_lt (Nat.div_le_self _ _) h1, Nat.lt_of_le_of_lt (Nat.div_le_self _ _) h2⟩
theorem Lv.self (q : Rat) : q = mkRat q.num ((q.den : Nat) : Int).natAbs := by rw [Int.natAbs_natCast, Rat.mkRat_self]
section
variable {k : Nat} {a b : Rat}




end
/-- An operand of level k. -/
def QK (k : Nat) (w : World) (neg : Bool) (A : Option Addr) (n c : Nat) (neg' : Bool) (A' : Option Addr) (n' c' : Nat) (q : Rat) : Prop := QAt (PB k) (PB k) w neg A n c neg' A' n' c' q
section
variable {k j : Nat} {w w' : World} {an an' bn bn' : Bool} {aA aA' bA bA' : Option Addr} {ak ac ak' ac' bk bc bk' bc' : Nat} {q qa qb : Rat}











end
end Go.Proofs.YtjajigkacccdgaaGreat
namespace Go.Proofs.YtjajigkacccdgaaGreat
set_option linter.unusedVariables false
set_option linter.unusedSimpArgs false
open Go.RowKit
open Wd
/-- The canonical rational q lies in two slices. -/
def RQ (w : World) (q : Rat) (A : Option Addr) (k c : Nat) (A' : Option Addr) (k' c' : Nat) : Prop := k ≤ c ∧ k' ≤ c' ∧ Wat w A k (digs q.num.natAbs) ∧ Wat w A' k' (denW q.den)
section
variable {w w' : World} {q : Rat} {A A' : Option Addr} {k c k' c' : Nat}
theorem RQ.below (h : RQ w q A k c A' k' c') (hb : Below w.heap.size w w') : RQ w' q A k c A' k' c' := ⟨h.1, h.2.1, h.2.2.1.below hb, h.2.2.2.below hb⟩
theorem RQ.put4 {g o : Nat} {a b : Bool} {B B' : Option Addr} {j d j' d' : Nat} {t : TypeId} {cs : Array Value} (h : RQ w q A k c A' k' c') (hb : Blk w g t cs) (hn : NoInt cs) : RQ (qst w g o a b B B' j d j' d') q A k c A' k' c' :=
 ⟨h.1, h.2.1, h.2.2.1.put4 hb hn, h.2.2.2.put4 hb hn⟩

end
end Go.Proofs.YtjajigkacccdgaaGreat
namespace Go.Proofs.YtjajigkacccdgaaGreat
set_option linter.unusedVariables false
set_option linter.unusedSimpArgs false
open Go.RowKit
open Wd










/-- The canonical digits. -/
def hd (n : Nat) : List Int := if h : n = 0 then [] else ((n % 65536 : Nat) : Int) :: hd (n / 65536)
 termination_by n
 decreasing_by exact Nat.div_lt_self (Nat.pos_of_ne_zero h) (by decide)



















/-- The slice reads as the canonical digits of v. -/
def HA (w : World) (A : Option Addr) (n c v : Nat) : Prop := n = (hd v).length ∧ IsAt w A n (hd v) ∧ n ≤ c
section
variable {w w' : World} {A : Option Addr} {n c v : Nat}






end
end Go.Proofs.YtjajigkacccdgaaGreat
namespace Go.Proofs.YtjajigkacccdgaaGreat
set_option linter.unusedVariables false
set_option linter.unusedSimpArgs false
open Go.RowKit
open Wd











end Go.Proofs.YtjajigkacccdgaaGreat
namespace Go.Proofs.YtjajigkacccdgaaGreat
set_option linter.unusedVariables false
set_option linter.unusedSimpArgs false
open Go.RowKit
open Wd

















end Go.Proofs.YtjajigkacccdgaaGreat
namespace Go.Proofs.YtjajigkacccdgaaGreat
set_option linter.unusedVariables false
set_option linter.unusedSimpArgs false
open Go.RowKit
open Wd














end Go.Proofs.YtjajigkacccdgaaGreat
namespace Go.Proofs.YtjajigkacccdgaaGreat
set_option linter.unusedVariables false
set_option linter.unusedSimpArgs false
open Go.RowKit
open Wd










end Go.Proofs.YtjajigkacccdgaaGreat
namespace Go.Proofs.YtjajigkacccdgaaGreat
set_option linter.unusedVariables false
set_option linter.unusedSimpArgs false
open Go.RowKit
open Wd
/-- What stands from the place k on. -/
def tp (a k : Nat) : Nat := a / 65536 ^ k









end Go.Proofs.YtjajigkacccdgaaGreat
namespace Go.Proofs.YtjajigkacccdgaaGreat
set_option linter.unusedVariables false
set_option linter.unusedSimpArgs false
open Go.RowKit
open Wd








end Go.Proofs.YtjajigkacccdgaaGreat
namespace Go.Proofs.YtjajigkacccdgaaGreat
set_option linter.unusedVariables false
set_option linter.unusedSimpArgs false
open Go.RowKit
open Wd













end Go.Proofs.YtjajigkacccdgaaGreat
namespace Go.Proofs.YtjajigkacccdgaaGreat
set_option linter.unusedVariables false
set_option linter.unusedSimpArgs false
open Go.RowKit
open Wd
end Go.Proofs.YtjajigkacccdgaaGreat
namespace Go.Proofs.YtjajigkacccdgaaGreat
set_option linter.unusedVariables false
set_option linter.unusedSimpArgs false
open Go.RowKit
open Wd


end Go.Proofs.YtjajigkacccdgaaGreat
namespace Go.Proofs.YtjajigkacccdgaaGreat
set_option linter.unusedVariables false
set_option linter.unusedSimpArgs false
open Go.RowKit
open Wd
section
variable {w w' : World} {an : Bool} {A : Option Addr} {n c : Nat} {z : Int}






end






end Go.Proofs.YtjajigkacccdgaaGreat
namespace Go.Proofs.YtjajigkacccdgaaGreat
set_option linter.unusedVariables false
set_option linter.unusedSimpArgs false
open Go.RowKit
open Wd





end Go.Proofs.YtjajigkacccdgaaGreat
namespace Go.Proofs.YtjajigkacccdgaaGreat
set_option linter.unusedVariables false
set_option linter.unusedSimpArgs false
open Go.RowKit
open Wd


end Go.Proofs.YtjajigkacccdgaaGreat
namespace Go.Proofs.YtjajigkacccdgaaGreat
set_option linter.unusedVariables false
set_option linter.unusedSimpArgs false
open Go.RowKit
open Wd
end Go.Proofs.YtjajigkacccdgaaGreat
namespace Go.Proofs.YtjajigkacccdgaaGreat
set_option linter.unusedVariables false
set_option linter.unusedSimpArgs false
open Go.RowKit
open Wd




end Go.Proofs.YtjajigkacccdgaaGreat
namespace Go.Proofs.YtjajigkacccdgaaGreat
set_option linter.unusedVariables false
set_option linter.unusedSimpArgs false
open Go.RowKit
open Wd

end Go.Proofs.YtjajigkacccdgaaGreat
namespace Go.Proofs.YtjajigkacccdgaaGreat
set_option linter.unusedVariables false
set_option linter.unusedSimpArgs false
open Go.RowKit
open Wd





end Go.Proofs.YtjajigkacccdgaaGreat
namespace Go.Proofs.YtjajigkacccdgaaGreat
set_option linter.unusedVariables false
set_option linter.unusedSimpArgs false
open Go.RowKit
open Wd


end Go.Proofs.YtjajigkacccdgaaGreat
namespace Go.Proofs.YtjajigkacccdgaaGreat
set_option linter.unusedVariables false
set_option linter.unusedSimpArgs false
open Go.RowKit
open Wd






end Go.Proofs.YtjajigkacccdgaaGreat
namespace Go.Proofs.YtjajigkacccdgaaGreat
set_option linter.unusedVariables false
set_option linter.unusedSimpArgs false
open Go.RowKit
open Wd
/-- The bound of s words. -/
def WB (s : Nat) : Nat := 4294967296 ^ s


theorem wb_mono {a b : Nat} (h : a ≤ b) : WB a ≤ WB b := Nat.pow_le_pow_right (by decide) h
theorem wb_add (s t : Nat) : WB s * WB t = WB (s + t) := (Nat.pow_add _ _ _).symm
theorem wb_mul (s t : Nat) : 2 * (WB s * WB t) ≤ WB (s + t + 1) := by
 rw [wb_add]
 unfold WB
 rw [Nat.pow_succ, Nat.mul_comm]
 exact Nat.mul_le_mul_left _ (by decide)
theorem wb_ok {s : Nat} (h : s ≤ 10000000000) : WOK (WB s) := wok_words s h

theorem wb_three : 18446744073709551616 < WB 3 := by decide

/-- A rational of s words. -/
def Ls (s : Nat) (q : Rat) : Prop := q.num.natAbs < WB s ∧ q.den < WB s


theorem Ls.mono {a b : Nat} {q : Rat} (h : Ls a q) (hab : a ≤ b) : Ls b q := ⟨Nat.lt_of_lt_of_le h.1 (wb_mono hab), Nat.lt_of_lt_of_le h.2 (wb_mono hab)⟩
theorem ls_int {s : Nat} (hs : 3 ≤ s) {z : Int} (h : z.natAbs ≤ 18446744073709551616) : Ls s (z : Rat) := by
 refine Ls.mono (a := 3) ⟨?_, ?_⟩ hs
 ·rw [Rat.num_intCast]; exact Nat.lt_of_le_of_lt h wb_three
 ·rw [Rat.den_intCast]; exact Nat.lt_trans (by decide) wb_three
section
variable {s t : Nat} {a b : Rat}
theorem Ls.dd (ha : Ls s a) (hb : Ls t b) : ((a.den : Int) * (b.den : Int)).natAbs ≠ 0 ∧ ((a.den : Int) * (b.den : Int)).natAbs < WB (s + t + 1) := by
 rw [Int.natAbs_mul, Int.natAbs_natCast, Int.natAbs_natCast]
 refine ⟨Nat.mul_ne_zero a.den_nz b.den_nz, ?_⟩
 have := wb_mul s t
 have := Nat.mul_lt_mul'' ha.2 hb.2
 omega
theorem Ls.sub (ha : Ls s a) (hb : Ls t b) : Ls (s + t + 1) (a - b) := by
 obtain ⟨h0, h1⟩ := ha.dd hb
 rw [Lv.self a, Lv.self b, rat_sub _ _ _ _ (by have := a.den_pos; omega) (by have := b.den_pos; omega)]
 refine lv_mk h0 ?_ h1
 have e1 := bound_mul2 (a := a.num) (b := (b.den : Int)) ha.1 (by rw [Int.natAbs_natCast]; exact hb.2) (wb_mul s t)
 have e2 := bound_mul2 (a := b.num) (b := (a.den : Int)) hb.1 (by rw [Int.natAbs_natCast]; exact ha.2) (wb_mul t s)
 rw [Nat.add_comm t s] at e2
 omega
theorem Ls.add (ha : Ls s a) (hb : Ls t b) : Ls (s + t + 1) (a + b) := by
 obtain ⟨h0, h1⟩ := ha.dd hb
 rw [Lv.self a, Lv.self b, rat_add _ _ _ _ (by have := a.den_pos; omega) (by have := b.den_pos; omega)]
 refine lv_mk h0 ?_ h1
 have e1 := bound_mul2 (a := a.num) (b := (b.den : Int)) ha.1 (by rw [Int.natAbs_natCast]; exact hb.2) (wb_mul s t)
 have e2 := bound_mul2 (a := b.num) (b := (a.den : Int)) hb.1 (by rw [Int.natAbs_natCast]; exact ha.2) (wb_mul t s)
 rw [Nat.add_comm t s] at e2
 omega
theorem Ls.mul (ha : Ls s a) (hb : Ls t b) : Ls (s + t + 1) (a * b) := by
 obtain ⟨h0, h1⟩ := ha.dd hb
 rw [Lv.self a, Lv.self b, rat_mul]
 refine lv_mk h0 ?_ h1
 have e1 := bound_mul2 ha.1 hb.1 (wb_mul s t)
 omega
end
/-- An operand of s words. -/
def QS (s : Nat) (w : World) (neg : Bool) (A : Option Addr) (n c : Nat) (neg' : Bool) (A' : Option Addr) (n' c' : Nat) (q : Rat) : Prop := QAt (WB s) (WB s) w neg A n c neg' A' n' c' q
section
variable {k j s t : Nat} {w w' : World} {an an' bn bn' : Bool} {aA aA' bA bA' : Option Addr} {ak ac ak' ac' bk bc bk' bc' : Nat} {q qa qb : Rat}

theorem QS.below (h : QS s w an aA ak ac an' aA' ak' ac' q) (hb : Below w.heap.size w w') : QS s w' an aA ak ac an' aA' ak' ac' q := QAt.below h hb
theorem QS.mono (h : QS s w an aA ak ac an' aA' ak' ac' q) (hst : s ≤ t) : QS t w an aA ak ac an' aA' ak' ac' q := by
 obtain ⟨na, da, h1, h2, h3, h4⟩ := h
 exact ⟨na, da, h1, Nat.lt_of_lt_of_le h2 (wb_mono hst), Nat.lt_of_lt_of_le h3 (wb_mono hst), h4⟩
theorem QS.ls (h : QS s w an aA ak ac an' aA' ak' ac' q) : Ls s q := by
 obtain ⟨na, da, h1, h2, h3, rfl⟩ := h
 exact lv_mk (den_nz da) h2 h3
theorem RQ.qs {A A' : Option Addr} {k c k' c' : Nat} (h : RQ w q A k c A' k' c') (hq : Ls s q) (hs : s ≤ 10000000000) : QS s w (decide (q.num < 0)) A k c false A' k' c' q :=
 qat_len (wb_ok hs) (Nat.le_refl _) (Nat.le_refl _) h.1 h.2.1 h.2.2.1 h.2.2.2 hq.1 hq.2
theorem sub_s (hs : s ≤ 1000000000) (ha : QS s w an aA ak ac an' aA' ak' ac' qa) (hb : QS s w bn bA bk bc bn' bA' bk' bc' qb) :
  Calls Tryz.prog 55 #[.agg #[.bool an, .slice aA ak ac, .bool an', .slice aA' ak' ac'], .agg #[.bool bn, .slice bA bk bc, .bool bn', .slice bA' bk' bc']] w (RetQ w (qa - qb)) :=
 qsub_any (WB (s + s + 1)) (WB s) (WB s) (wb_ok (by omega)) (wb_mul s s) (by have := wb_mul s s; omega) _ _ _ _ _ _ _ _ _ _ _ _ _ _ _ _ _ _ _ ha hb
theorem add_s (hs : s ≤ 1000000000) (ha : QS s w an aA ak ac an' aA' ak' ac' qa) (hb : QS s w bn bA bk bc bn' bA' bk' bc' qb) :
  Calls Tryz.prog 42 #[.agg #[.bool an, .slice aA ak ac, .bool an', .slice aA' ak' ac'], .agg #[.bool bn, .slice bA bk bc, .bool bn', .slice bA' bk' bc']] w (RetQ w (qa + qb)) :=
 qadd_any (WB (s + s + 1)) (WB s) (WB s) (wb_ok (by omega)) (wb_mul s s) (by have := wb_mul s s; omega) _ _ _ _ _ _ _ _ _ _ _ _ _ _ _ _ _ _ _ ha hb
theorem mul_s (hs : s ≤ 1000000000) (ha : QS s w an aA ak ac an' aA' ak' ac' qa) (hb : QS s w bn bA bk bc bn' bA' bk' bc' qb) :
  Calls Tryz.prog 54 #[.agg #[.bool an, .slice aA ak ac, .bool an', .slice aA' ak' ac'], .agg #[.bool bn, .slice bA bk bc, .bool bn', .slice bA' bk' bc']] w (RetQ w (qa * qb)) :=
 qmulq_any (WB (s + s + 1)) (WB s) (WB s) (wb_ok (by omega)) (by have := wb_mul s s; omega) (by have := wb_mul s s; omega) _ _ _ _ _ _ _ _ _ _ _ _ _ _ _ _ _ _ _ ha hb

theorem cmp_s (ha : QS s w an aA ak ac an' aA' ak' ac' qa) (hb : QS s w bn bA bk bc bn' bA' bk' bc' qb) :
  Calls Tryz.prog 43 #[.agg #[.bool an, .slice aA ak ac, .bool an', .slice aA' ak' ac'], .agg #[.bool bn, .slice bA bk bc, .bool bn', .slice bA' bk' bc']] w fun e w' => e = .returned (.int .i64 (cmpQ qa qb)) ∧ Below w.heap.size w w' :=
 qcmp_any _ _ _ _ _ _ _ _ _ _ _ _ _ _ _ _ _ _ _ ha hb


end

end Go.Proofs.YtjajigkacccdgaaGreat
namespace Go.Proofs.YtjajigkacccdgaaGreat
set_option linter.unusedVariables false
set_option linter.unusedSimpArgs false
open Go.RowKit
open Wd
theorem qk_raw {W : World} {an an' : Bool} {A A' : Option Addr} {n c n' c' : Nat} {l l' : List Nat} (h : Wat W A n l) (h' : Wat W A' n' l') (hc : n ≤ c) (hc' : n' ≤ c') (hn : n ≤ 6) (hn' : n' ≤ 6) : ∃ q, QK 0 W an A n c an' A' n' c' q := by
 have v1 := val_lt h.2.1
 have v2 := val_lt h'.2.1
 rw [h.1] at v1
 rw [h'.1] at v2
 have v3 := Nat.lt_of_lt_of_le v1 (Nat.pow_le_pow_right (by decide : 0 < 4294967296) hn)
 have v4 := Nat.lt_of_lt_of_le v2 (Nat.pow_le_pow_right (by decide : 0 < 4294967296) hn')
 have v5 : 4294967296 ^ 6 + 1 ≤ PB 0 := by decide
 have b1 : (qnum (sg an (val l)) (sg an' (val l'))).natAbs = val l := by
  have := sg_natAbs an (val l)
  unfold qnum
  split <;> omega
 have b2 : (qden (sg an' (val l'))).natAbs ≤ val l' + 1 := by
  have := sg_natAbs an' (val l')
  unfold qden
  split <;> (try split) <;> omega
 exact ⟨_, _, _, ⟨l, l', h, h', hc, hc', by omega, by omega, rfl, rfl⟩, by omega, by omega, rfl⟩
theorem QRaw.qs {w : World} {A A' : Option Addr} {n c n' c' : Nat} (h : QRaw w A n c A' n' c') (an an' : Bool) (hn : n ≤ 6) (hn' : n' ≤ 6) : ∃ q, QS 7 w an A n c an' A' n' c' q := by
 obtain ⟨l, l', h1, h2, h3, h4⟩ := h
 exact qk_raw h1 h2 h3 h4 hn hn'
theorem QS.arg {s : Nat} {w : World} {an an' : Bool} {aA aA' : Option Addr} {ak ac ak' ac' : Nat} {q : Rat} (h : QS s w an aA ak ac an' aA' ak' ac' q) : QArg w an aA ak ac an' aA' ak' ac' q := ⟨_, _, h⟩
theorem RQ.arg {s : Nat} {w : World} {q : Rat} {A A' : Option Addr} {k c k' c' : Nat} (h : RQ w q A k c A' k' c') (hq : Ls s q) (hs : s ≤ 10000000000) : QArg w (decide (q.num < 0)) A k c false A' k' c' q := (h.qs hq hs).arg
theorem abs_s {s : Nat} {w : World} {an an' : Bool} {aA aA' : Option Addr} {ak ac ak' ac' : Nat} {q : Rat} (hs : s ≤ 10000000000) (ha : QS s w an aA ak ac an' aA' ak' ac' q) :
  Calls Tryz.prog 53 #[.agg #[.bool an, .slice aA ak ac, .bool an', .slice aA' ak' ac']] w (RetQ w (absQ q)) :=
 qabs_any (WB s) (WB s) (WB s) (wb_ok hs) (Nat.le_refl _) (Nat.le_refl _) _ _ _ _ _ _ _ _ _ _ ha
theorem Ls.abs {s : Nat} {q : Rat} (h : Ls s q) : Ls s (absQ q) := by
 obtain ⟨h1, h2⟩ := absQ_num q
 exact ⟨by rw [h1]; exact h.1, by rw [h2]; exact h.2⟩
/-- Two rationals in one block. -/
theorem QsAtR.two {w : World} {g : Nat} {t : TypeId} {an an' bn bn' : Bool} {aA aA' bA bA' : Option Addr} {ak ac ak' ac' bk bc bk' bc' : Nat} (h : Blk w g t #[.bool an, .slice aA ak ac, .bool an', .slice aA' ak' ac', .bool bn, .slice bA bk bc, .bool bn', .slice bA' bk' bc']) : QsAtR w (some ⟨g, 0, none⟩) 2 [(an, (aA, ak, ac), an', (aA', ak', ac')), (bn, (bA, bk, bc), bn', (bA', bk', bc'))] := by
 refine ⟨rfl, fun _ => ⟨g, 0, rfl, h.lt, fun j hj => ?_⟩⟩
 obtain rfl | rfl : j = 0 ∨ j = 1 := by omega
 ·exact ⟨h.cell 0, h.cell 1, h.cell 2, h.cell 3⟩
 ·exact ⟨h.cell 4, h.cell 5, h.cell 6, h.cell 7⟩

end Go.Proofs.YtjajigkacccdgaaGreat