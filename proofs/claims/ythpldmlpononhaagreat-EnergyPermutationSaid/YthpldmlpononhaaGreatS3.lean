/-
Allocate of package step at a valid curve and a quantity that fits it. No statement of the seat is proved here; no conditions beyond those of each theorem.
-/
import Derived.Test.YthpldmlpononhaaGreatS2
namespace Go.Proofs.YthpldmlpononhaaGreat
set_option linter.unusedVariables false
set_option linter.unusedSimpArgs false
open Go.RowKit
open Wd

/-- The lesser of a rest and a quantity. -/
def lessQ (r : Rat) (a : Int) : Rat := if (a : Rat) < r then (a : Rat) else r
/-- What is left of q before step k, and what is taken from step k. -/
def restAt (l : List (Int × Int)) (q : Rat) : Nat → Rat
  | 0 => q
  | k + 1 => restAt l q k - lessQ (restAt l q k) (l[k]?.getD (0, 0)).1
def partAt (l : List (Int × Int)) (q : Rat) (k : Nat) : Rat := lessQ (restAt l q k) (l[k]?.getD (0, 0)).1

theorem sub_whole (r : Rat) (a : Int) : (r - (a : Rat)).num = r.num - a * r.den ∧ (r - (a : Rat)).den = r.den := by
  have hd := r.den_nz
  have e0 : r - (a : Rat) = mkRat (r.num - a * r.den) r.den := by
    have e1 : r = mkRat r.num r.den := (Rat.mkRat_self r).symm
    have e2 : (a : Rat) = mkRat a 1 := by rw [Rat.mkRat_one]
    have := rat_sub r.num a (r.den : Int) 1 (by omega) (by omega)
    simp only [Int.natAbs_natCast, Int.mul_one] at this
    rw [show (1 : Int).natAbs = 1 from rfl, ← e1, ← e2] at this
    exact this
  have hg : Nat.gcd (r.num - a * r.den).natAbs r.den = 1 := by
    have h1 : Nat.gcd r.num.natAbs r.den = 1 := r.reduced
    have h2 : Int.gcd (r.num - a * r.den) r.den = Int.gcd r.num r.den := by
      rw [Int.sub_eq_add_neg, ← Int.neg_mul, Int.mul_comm (-a), Int.gcd_add_mul_left_left]
    exact h2.trans h1
  rw [e0, mk_num _ _ hd, mk_den _ _ hd, hg]
  simp

theorem rest_bd {r : Rat} {a : Int} {Nn Nd : Nat} (h0 : 0 ≤ r) (ha : 0 ≤ a) (hn : r.num.natAbs < Nn) (hd : r.den < Nd) :
    0 ≤ r - lessQ r a ∧ (r - lessQ r a).num.natAbs < Nn ∧ (r - lessQ r a).den < Nd := by
  have hdp := r.den_pos
  unfold lessQ
  split
  · rename_i hlt
    obtain ⟨e1, e2⟩ := sub_whole r a
    have h1 : 0 ≤ r - (a : Rat) := by grind
    have h2 : 0 ≤ (r - (a : Rat)).num := Rat.num_nonneg.2 h1
    have h3 : 0 ≤ r.num := Rat.num_nonneg.2 h0
    refine ⟨h1, ?_, by rw [e2]; exact hd⟩
    have h4 : 0 ≤ a * r.den := Int.mul_nonneg ha (by omega)
    rw [e1] at h2 ⊢
    omega
  · have e : r - r = 0 := by grind
    rw [e]
    refine ⟨Rat.le_refl, ?_, ?_⟩
    · show 0 < Nn; omega
    · show 1 < Nd; omega

theorem restAt_bd {l : List (Int × Int)} {q : Rat} {Nn Nd : Nat} (h0 : 0 ≤ q) (hok : ∀ s ∈ l, ¬ Bad s.1 s.2) (hn : q.num.natAbs < Nn) (hd : q.den < Nd) : ∀ k, k ≤ l.length → 0 ≤ restAt l q k ∧ (restAt l q k).num.natAbs < Nn ∧ (restAt l q k).den < Nd
  | 0, _ => ⟨h0, hn, hd⟩
  | k + 1, hk => by
    obtain ⟨i1, i2, i3⟩ := restAt_bd h0 hok hn hd k (by omega)
    have hm : (l[k]?.getD (0, 0)) ∈ l := by rw [List.getElem?_eq_getElem (by omega)]; exact List.getElem_mem _
    have hb := hok _ hm
    unfold Bad at hb
    exact rest_bd i1 (by omega) i2 i3

theorem QAt.bd {Nn Nd : Nat} {w : World} {neg neg' : Bool} {A A' : Option Addr} {n c n' c' : Nat} {q : Rat} (h : QAt Nn Nd w neg A n c neg' A' n' c' q) : q.num.natAbs < Nn ∧ q.den < Nd := by
  obtain ⟨na, da, _, h1, h2, rfl⟩ := h
  have hp := qden_pos da
  rw [mk_num _ _ (by omega), mk_den _ _ (by omega)]
  refine ⟨?_, Nat.lt_of_le_of_lt (Nat.div_le_self _ _) h2⟩
  rw [Int.natAbs_tdiv]
  exact Nat.lt_of_le_of_lt (Nat.div_le_self _ _) h1

theorem rep_q (n : Nat) : madeCells #[.bool false, .slice none 0 0, .bool false, .slice none 0 0] n = madeCells #[.bool false, .slice none 0 0, .bool false, .slice none 0 0] n := rfl

end Go.Proofs.YthpldmlpononhaaGreat
