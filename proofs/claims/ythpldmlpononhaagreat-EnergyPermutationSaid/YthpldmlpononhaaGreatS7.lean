/-
Cost of package step at whole quantities. No statement of the seat is proved here; no conditions beyond those of each theorem.
-/
import Derived.Test.YthpldmlpononhaaGreatS6
import Derived.Test.YthpldmlpononhaaGreatEP
namespace Go.Proofs.YthpldmlpononhaaGreat
set_option linter.unusedVariables false
set_option linter.unusedSimpArgs false
open Go.RowKit
open Wd

def restI (l : List (Int × Int)) (z : Int) : Nat → Int
  | 0 => z
  | k + 1 => restI l z k - min (restI l z k) (l[k]?.getD (0, 0)).1
def partI (l : List (Int × Int)) (z : Int) (k : Nat) : Int := min (restI l z k) (l[k]?.getD (0, 0)).1
def costI (l : List (Int × Int)) (z : Int) : Nat → Int
  | 0 => 0
  | k + 1 => costI l z k + partI l z k * (l[k]?.getD (0, 0)).2

theorem lessQ_whole (z a : Int) : lessQ (z : Rat) a = ((min z a : Int) : Rat) := by
  unfold lessQ
  by_cases h : a < z
  · rw [if_pos (by exact_mod_cast h), show min z a = a by omega]
  · rw [if_neg (by intro hh; exact h (by exact_mod_cast hh)), show min z a = z by omega]
theorem restAt_whole (l : List (Int × Int)) (z : Int) : ∀ k, restAt l (z : Rat) k = ((restI l z k : Int) : Rat)
  | 0 => rfl
  | k + 1 => by rw [restAt, restI, restAt_whole l z k, lessQ_whole, Rat.intCast_sub]
theorem partAt_whole (l : List (Int × Int)) (z : Int) (k : Nat) : partAt l (z : Rat) k = ((partI l z k : Int) : Rat) := by
  rw [partAt, partI, restAt_whole, lessQ_whole]
theorem prod_whole (l : List (Int × Int)) (z : Int) (k : Nat) : partAt l (z : Rat) k * (((l[k]?.getD (0, 0)).2 : Int) : Rat) = ((partI l z k * (l[k]?.getD (0, 0)).2 : Int) : Rat) := by
  rw [partAt_whole, Rat.intCast_mul]
theorem costAt_whole (l : List (Int × Int)) (z : Int) : ∀ k, costAt l (z : Rat) k = ((costI l z k : Int) : Rat)
  | 0 => rfl
  | k + 1 => by rw [costAt, costI, costAt_whole l z k, prod_whole, Rat.intCast_add]

theorem restI_cons (s : Int × Int) (r : List (Int × Int)) (z : Int) : ∀ k, restI (s :: r) z (k + 1) = restI r (z - min z s.1) k
  | 0 => by simp [restI]
  | k + 1 => by rw [restI, restI_cons s r z k, restI]; simp
theorem costI_cons (s : Int × Int) (r : List (Int × Int)) (z : Int) : ∀ k, costI (s :: r) z (k + 1) = min z s.1 * s.2 + costI r (z - min z s.1) k
  | 0 => by simp [costI, partI, restI]
  | k + 1 => by
    rw [costI, costI_cons s r z k, costI]
    have e : partI (s :: r) z (k + 1) = partI r (z - min z s.1) k := by unfold partI; rw [restI_cons]; simp
    rw [e]
    simp only [List.getElem?_cons_succ]
    omega
theorem costI_all : ∀ (l : List (Int × Int)) (z : Int), costI l z l.length = En.cst l z
  | [], _ => rfl
  | s :: r, z => by rw [List.length_cons, costI_cons, costI_all r, En.cst]

theorem restI_bd {l : List (Int × Int)} {z : Int} (hok : ∀ s ∈ l, ¬ Bad s.1 s.2) (h0 : 0 ≤ z) (h1 : z ≤ 3000000) : ∀ k, k ≤ l.length → 0 ≤ restI l z k ∧ restI l z k ≤ 3000000
  | 0, _ => ⟨h0, h1⟩
  | k + 1, hk => by
    have ih := restI_bd hok h0 h1 k (by omega)
    have hm : (l[k]?.getD (0, 0)) ∈ l := by rw [List.getElem?_eq_getElem (by omega)]; exact List.getElem_mem _
    have hb := hok _ hm
    unfold Bad at hb
    rw [restI]
    omega
theorem prodI_bd {l : List (Int × Int)} {z : Int} (hok : ∀ s ∈ l, ¬ Bad s.1 s.2) (h0 : 0 ≤ z) (h1 : z ≤ 3000000) {k : Nat} (hk : k < l.length) : (partI l z k * (l[k]?.getD (0, 0)).2).natAbs ≤ 3000000000000 := by
  have ih := restI_bd hok h0 h1 k (by omega)
  have hm : (l[k]?.getD (0, 0)) ∈ l := by rw [List.getElem?_eq_getElem (by omega)]; exact List.getElem_mem _
  have hb := hok _ hm
  unfold Bad at hb
  rw [Int.natAbs_mul]
  have h2 : (partI l z k).natAbs ≤ 3000000 := by unfold partI; omega
  have h3 : (l[k]?.getD (0, 0)).2.natAbs ≤ 1000000 := by omega
  exact Nat.le_trans (Nat.mul_le_mul h2 h3) (by omega)
theorem costI_bd {l : List (Int × Int)} {z : Int} (hok : ∀ s ∈ l, ¬ Bad s.1 s.2) (h0 : 0 ≤ z) (h1 : z ≤ 3000000) : ∀ k, k ≤ l.length → (costI l z k).natAbs ≤ 3000000000000 * k
  | 0, _ => by simp [costI]
  | k + 1, hk => by
    have ih := costI_bd hok h0 h1 k (by omega)
    have hp := prodI_bd hok h0 h1 (k := k) (by omega)
    rw [costI]
    omega
theorem cst_bd {l : List (Int × Int)} {z : Int} (he : curveE l = 0) (h0 : 0 ≤ z) (h1 : z ≤ qsum l) : (En.cst l z).natAbs ≤ 9000000000000 := by
  obtain ⟨_, hl, hok⟩ := curve_ok he
  have hq := qsum_bd l hok
  have := costI_bd hok h0 (by omega) l.length (Nat.le_refl _)
  rw [costI_all] at this
  omega

theorem costOK_whole {l : List (Int × Int)} {z : Int} (he : curveE l = 0) (h0 : 0 ≤ z) (h1 : z ≤ qsum l) : CostOK 4611686018427387904 2147483648 2 1152921504606846976 2 l (z : Rat) := by
  obtain ⟨_, hl, hok⟩ := curve_ok he
  have hq := qsum_bd l hok
  refine ⟨by omega, by omega, by omega, by omega, by omega, by omega, by omega, by omega, by omega, by omega, by omega, by omega, fun k hk => ?_, fun k hk => ?_⟩
  · have hb := costI_bd hok h0 (by omega) k hk
    rw [costAt_whole, Rat.num_intCast, Rat.den_intCast]
    omega
  · have hb := prodI_bd hok h0 (by omega) hk
    rw [prod_whole, Rat.num_intCast, Rat.den_intCast]
    omega

/-- Cost at a whole quantity that lies in memory in canonical form. -/
theorem scost_whole (A : Option Addr) (n c : Nat) (l : List (Int × Int)) (aA aA' : Option Addr) (ak ac ak' ac' : Nat) (z : Int) (w : World) (h : StAt w A n l) (hk : ak ≤ ac) (hk' : ak' ≤ ac') (hW : Wat w aA ak (digs ((z : Int) : Rat).num.natAbs)) (hW' : Wat w aA' ak' (denW ((z : Int) : Rat).den))
    (he : curveE l = 0) (h0 : 0 ≤ z) (h1 : z ≤ qsum l) :
    Calls Tryz.prog 55 #[.slice A n c, .agg #[.bool (decide (((z : Int) : Rat).num < 0)), .slice aA ak ac, .bool false, .slice aA' ak' ac']] w (CstPost w ((En.cst l z : Int) : Rat)) := by
  obtain ⟨_, hl, hok⟩ := curve_ok he
  have hqb := qsum_bd l hok
  have hq : QAt 2147483648 2 w (decide (((z : Int) : Rat).num < 0)) aA ak ac false aA' ak' ac' (z : Rat) :=
    qat_len wok_small (by omega) (by omega) hk hk' hW hW' (by rw [Rat.num_intCast]; omega) (by rw [Rat.den_intCast]; omega)
  have hT := scost_ok 4611686018427387904 2147483648 2 1152921504606846976 2 wok_small A n c l _ false aA aA' ak ac ak' ac' (z : Rat) w h hq he (by exact_mod_cast h0) (by exact_mod_cast h1) (costOK_whole he h0 h1)
  rw [costAt_whole, show n = l.length from h.1.symm, costI_all] at hT
  rw [show n = l.length from h.1.symm]
  exact hT

end Go.Proofs.YthpldmlpononhaaGreat
