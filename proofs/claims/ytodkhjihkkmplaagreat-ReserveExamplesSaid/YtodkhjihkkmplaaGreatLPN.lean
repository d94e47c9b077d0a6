/-
Allocate of package step at a valid curve and a quantity that fits it: the walk. Cost of package step at a valid curve and a quantity that fits it. Rationals of growing size: every operation rises by one level. No statement of the seat is proved here; no conditions beyond those of each theorem.
-/
import Derived.Test.YtodkhjihkkmplaaGreatLPM
import Derived.Deep.RegionWith
import Derived.Deep.DrawnRows
import Derived.Test.YtodkhjihkkmplaaGreatLPK
namespace Go.Proofs.YtodkhjihkkmplaaGreat
set_option linter.unusedVariables false
set_option linter.unusedSimpArgs false
open Go.RowKit
open Wd


section
variable {g : Nat} {t : TypeId} {W w w' : World}




end
theorem QRow.cells {w : World} {g n : Nat} {ps : List Rat} (h : QRow w g n ps) {j : Nat} (hj : j < n) : ∃ A k c A' k' c',
  w.cell? ⟨g, j * 4, none⟩ = some (.bool (decide ((ps[j]?.getD 0).num < 0))) ∧ w.cell? ⟨g, j * 4 + 1, none⟩ = some (.slice A k c) ∧ w.cell? ⟨g, j * 4 + 2, none⟩ = some (.bool false) ∧ w.cell? ⟨g, j * 4 + 3, none⟩ = some (.slice A' k' c') ∧
  w.frozen? ⟨g, j * 4, none⟩ = false ∧ w.frozen? ⟨g, j * 4 + 1, none⟩ = false ∧ w.frozen? ⟨g, j * 4 + 2, none⟩ = false ∧ w.frozen? ⟨g, j * 4 + 3, none⟩ = false ∧
  k ≤ c ∧ k' ≤ c' ∧ Wat w A k (digs (ps[j]?.getD 0).num.natAbs) ∧ Wat w A' k' (denW (ps[j]?.getD 0).den) := by
 obtain ⟨_, cs, hb, _, _, hc⟩ := h
 obtain ⟨A, k, c, A', k', c', e1, e2, e3, e4, e5, e6, e7, e8⟩ := hc j hj
 exact ⟨A, k, c, A', k', c', (hb.cell _).trans e1, (hb.cell _).trans e2, (hb.cell _).trans e3, (hb.cell _).trans e4, hb.frozen _, hb.frozen _, hb.frozen _, hb.frozen _, e5, e6, e7, e8⟩


theorem qat_len {M Nn Nd : Nat} (HO : WOK M) (hnm : Nn ≤ M) (hdm : Nd ≤ M) {w : World} {A A' : Option Addr} {k c k' c' : Nat} {q : Rat} (hk : k ≤ c) (hk' : k' ≤ c') (hW : Wat w A k (digs q.num.natAbs)) (hW' : Wat w A' k' (denW q.den)) (hn : q.num.natAbs < Nn) (hd : q.den < Nd) :
  QAt Nn Nd w (decide (q.num < 0)) A k c false A' k' c' q := by
 refine qat_canon hk hk' hW hW' ?_ ?_ hn hd
 ·rw [← hW.1]; exact HO.len _ (by omega)
 ·rw [← hW'.1]; unfold denW; split
  ·simp
  ·exact HO.len _ (by omega)

end Go.Proofs.YtodkhjihkkmplaaGreat
namespace Go.Proofs.YtodkhjihkkmplaaGreat
open Go.RowKit
open Wd
attribute [local go_sem ↓] Go.wp_at_zero Go.wp_at_succ
section
variable {base base' : Nat} {w w' : World} {q : Rat} {A A' : Option Addr} {k c k' c' : Nat}




end
/-- The cost of what is taken from the first k steps. -/
def costAt (l : List (Int × Int)) (q : Rat) : Nat → Rat
 | 0 => 0
 | k + 1 => costAt l q k + partAt l q k * (((l[k]?.getD (0, 0)).2 : Int) : Rat)

/-- The sizes that Cost comes to fit the bounds of its arithmetic. -/
structure CostOK (M Nn Nd Cn Cd : Nat) (l : List (Int × Int)) (q : Rat) : Prop where
 hn : 3000000 < Nn
 hn2 : Nn ≤ 4611686018427387904
 hd : 1 < Nd
 nn : Nn * Nn ≤ M
 dd : Nd * Nd ≤ M
 nd : 2 * (Nn * Nd) ≤ M
 nm : Nn ≤ M
 dm : Nd ≤ M
 cnd : 2 * (Cn * Cd) ≤ M
 cdd : Cd * Cd ≤ M
 cn : Cn ≤ M
 cd : Cd ≤ M
 sum : ∀ k, k ≤ l.length → (costAt l q k).num.natAbs < Cn ∧ (costAt l q k).den < Cd
 prod : ∀ k, k < l.length → (partAt l q k * (((l[k]?.getD (0, 0)).2 : Int) : Rat)).num.natAbs < Cn ∧ (partAt l q k * (((l[k]?.getD (0, 0)).2 : Int) : Rat)).den < Cd


end Go.Proofs.YtodkhjihkkmplaaGreat
namespace Go.Proofs.YtodkhjihkkmplaaGreat
open Go.RowKit
open Wd
/-- The bound of level k. -/
def PB (k : Nat) : Nat := 4294967296 ^ (7 * 3 ^ k)

theorem pb_mono {a b : Nat} (h : a ≤ b) : PB a ≤ PB b := Nat.pow_le_pow_right (by decide) (Nat.mul_le_mul_left _ (Nat.pow_le_pow_right (by decide) h))
theorem pb_mul (k : Nat) : 2 * (PB k * PB k) ≤ PB (k + 1) := by
 have h3 : 7 * 3 ^ (k + 1) = 7 * 3 ^ k + 7 * 3 ^ k + 7 * 3 ^ k := by rw [Nat.pow_succ]; omega
 have h1 : 1 ≤ 7 * 3 ^ k := by have := Nat.pow_pos (a := 3) (n := k) (by decide); omega
 have h2 : 2 ≤ 4294967296 ^ (7 * 3 ^ k) := Nat.le_trans (by decide : 2 ≤ 4294967296 ^ 1) (Nat.pow_le_pow_right (by decide) h1)
 unfold PB
 rw [h3, Nat.pow_add, Nat.pow_add, Nat.mul_comm 2]
 exact Nat.mul_le_mul_left _ h2
theorem pb_ok {k : Nat} (h : k ≤ 18) : WOK (PB k) := by
 refine wok_words _ ?_
 have : 3 ^ k ≤ 3 ^ 18 := Nat.pow_le_pow_right (by decide) h
 have h18 : (3 : Nat) ^ 18 = 387420489 := by decide
 omega
theorem pb_zero : 18446744073709551616 < PB 0 := by decide

/-- A rational of level k. -/
def Lv (k : Nat) (q : Rat) : Prop := q.num.natAbs < PB k ∧ q.den < PB k
theorem Lv.mono {a b : Nat} {q : Rat} (h : Lv a q) (hab : a ≤ b) : Lv b q := ⟨Nat.lt_of_lt_of_le h.1 (pb_mono hab), Nat.lt_of_lt_of_le h.2 (pb_mono hab)⟩
theorem lv_int (k : Nat) {z : Int} (h : z.natAbs ≤ 18446744073709551616) : Lv k (z : Rat) := by
 refine Lv.mono (a := 0) ⟨?_, ?_⟩ (Nat.zero_le _)
 ·rw [Rat.num_intCast]; exact Nat.lt_of_le_of_lt h pb_zero
 ·rw [Rat.den_intCast]; exact Nat.lt_trans (by decide) pb_zero
theorem lv_mk {n : Int} {d N : Nat} (hd : d ≠ 0) (h1 : n.natAbs < N) (h2 : d < N) : (mkRat n d).num.natAbs < N ∧ (mkRat n d).den < N := by
 rw [mk_num _ _ hd, mk_den _ _ hd, Int.natAbs_tdiv, Int.natAbs_natCast]
 exact ⟨Nat.lt_of_le_of_lt (Nat.div_le_self _ _) h1, Nat.lt_of_le_of_lt (Nat.div_le_self _ _) h2⟩
theorem Lv.self (q : Rat) : q = mkRat q.num ((q.den : Nat) : Int).natAbs := by rw [Int.natAbs_natCast, Rat.mkRat_self]
section
variable {k : Nat} {a b : Rat}
theorem Lv.dd (ha : Lv k a) (hb : Lv k b) : ((a.den : Int) * (b.den : Int)).natAbs ≠ 0 ∧ ((a.den : Int) * (b.den : Int)).natAbs < PB (k + 1) := by
 rw [Int.natAbs_mul, Int.natAbs_natCast, Int.natAbs_natCast]
 refine ⟨Nat.mul_ne_zero a.den_nz b.den_nz, ?_⟩
 have := pb_mul k
 have := Nat.mul_lt_mul'' ha.2 hb.2
 omega
theorem Lv.sub (ha : Lv k a) (hb : Lv k b) : Lv (k + 1) (a - b) := by
 obtain ⟨h0, h1⟩ := ha.dd hb
 rw [Lv.self a, Lv.self b, rat_sub _ _ _ _ (by have := a.den_pos; omega) (by have := b.den_pos; omega)]
 refine lv_mk h0 ?_ h1
 have e1 := bound_mul2 (a := a.num) (b := (b.den : Int)) ha.1 (by rw [Int.natAbs_natCast]; exact hb.2) (pb_mul k)
 have e2 := bound_mul2 (a := b.num) (b := (a.den : Int)) hb.1 (by rw [Int.natAbs_natCast]; exact ha.2) (pb_mul k)
 omega
theorem Lv.add (ha : Lv k a) (hb : Lv k b) : Lv (k + 1) (a + b) := by
 obtain ⟨h0, h1⟩ := ha.dd hb
 rw [Lv.self a, Lv.self b, rat_add _ _ _ _ (by have := a.den_pos; omega) (by have := b.den_pos; omega)]
 refine lv_mk h0 ?_ h1
 have e1 := bound_mul2 (a := a.num) (b := (b.den : Int)) ha.1 (by rw [Int.natAbs_natCast]; exact hb.2) (pb_mul k)
 have e2 := bound_mul2 (a := b.num) (b := (a.den : Int)) hb.1 (by rw [Int.natAbs_natCast]; exact ha.2) (pb_mul k)
 omega
theorem Lv.mul (ha : Lv k a) (hb : Lv k b) : Lv (k + 1) (a * b) := by
 obtain ⟨h0, h1⟩ := ha.dd hb
 rw [Lv.self a, Lv.self b, rat_mul]
 refine lv_mk h0 ?_ h1
 have e1 := bound_mul2 ha.1 hb.1 (pb_mul k)
 omega
theorem Lv.mn (ha : Lv k a) (hb : Lv k b) : Lv k (if b < a then b else a) := by split <;> assumption
end

/-- An operand of level k. -/
def QK (k : Nat) (w : World) (neg : Bool) (A : Option Addr) (n c : Nat) (neg' : Bool) (A' : Option Addr) (n' c' : Nat) (q : Rat) : Prop := QAt (PB k) (PB k) w neg A n c neg' A' n' c' q
section
variable {k j : Nat} {w w' : World} {an an' bn bn' : Bool} {aA aA' bA bA' : Option Addr} {ak ac ak' ac' bk bc bk' bc' : Nat} {q qa qb : Rat}
theorem QK.below (h : QK k w an aA ak ac an' aA' ak' ac' q) (hb : Below w.heap.size w w') : QK k w' an aA ak ac an' aA' ak' ac' q := QAt.below h hb

theorem QK.lv (h : QK k w an aA ak ac an' aA' ak' ac' q) : Lv k q := by
 obtain ⟨na, da, h1, h2, h3, rfl⟩ := h
 exact lv_mk (den_nz da) h2 h3

theorem wat_qk (h1 : ak ≤ ac) (h2 : ak' ≤ ac') (h3 : Wat w aA ak (digs q.num.natAbs)) (h4 : Wat w aA' ak' (denW q.den)) (hq : Lv k q) (hk : k ≤ 18) : QK k w (decide (q.num < 0)) aA ak ac false aA' ak' ac' q := qat_len (pb_ok hk) (Nat.le_refl _) (Nat.le_refl _) h1 h2 h3 h4 hq.1 hq.2
theorem sub_k (hk : k ≤ 17) (ha : QK k w an aA ak ac an' aA' ak' ac' qa) (hb : QK k w bn bA bk bc bn' bA' bk' bc' qb) :
  Calls Tryz.prog 44 #[.agg #[.bool an, .slice aA ak ac, .bool an', .slice aA' ak' ac'], .agg #[.bool bn, .slice bA bk bc, .bool bn', .slice bA' bk' bc']] w (RetQ w (qa - qb)) :=
 qsub_any (PB (k + 1)) (PB k) (PB k) (pb_ok (by omega)) (pb_mul k) (by have := pb_mul k; omega) _ _ _ _ _ _ _ _ _ _ _ _ _ _ _ _ _ _ _ ha hb
theorem add_k (hk : k ≤ 17) (ha : QK k w an aA ak ac an' aA' ak' ac' qa) (hb : QK k w bn bA bk bc bn' bA' bk' bc' qb) :
  Calls Tryz.prog 30 #[.agg #[.bool an, .slice aA ak ac, .bool an', .slice aA' ak' ac'], .agg #[.bool bn, .slice bA bk bc, .bool bn', .slice bA' bk' bc']] w (RetQ w (qa + qb)) :=
 qadd_any (PB (k + 1)) (PB k) (PB k) (pb_ok (by omega)) (pb_mul k) (by have := pb_mul k; omega) _ _ _ _ _ _ _ _ _ _ _ _ _ _ _ _ _ _ _ ha hb
theorem mul_k (hk : k ≤ 17) (ha : QK k w an aA ak ac an' aA' ak' ac' qa) (hb : QK k w bn bA bk bc bn' bA' bk' bc' qb) :
  Calls Tryz.prog 31 #[.agg #[.bool an, .slice aA ak ac, .bool an', .slice aA' ak' ac'], .agg #[.bool bn, .slice bA bk bc, .bool bn', .slice bA' bk' bc']] w (RetQ w (qa * qb)) :=
 qmulq_any (PB (k + 1)) (PB k) (PB k) (pb_ok (by omega)) (by have := pb_mul k; omega) (by have := pb_mul k; omega) _ _ _ _ _ _ _ _ _ _ _ _ _ _ _ _ _ _ _ ha hb
theorem min_k (hk : k ≤ 18) (ha : QK k w an aA ak ac an' aA' ak' ac' qa) (hb : QK k w bn bA bk bc bn' bA' bk' bc' qb) :
  Calls Tryz.prog 46 #[.agg #[.bool an, .slice aA ak ac, .bool an', .slice aA' ak' ac'], .agg #[.bool bn, .slice bA bk bc, .bool bn', .slice bA' bk' bc']] w (RetQ w (if qb < qa then qb else qa)) :=
 qmin_any (PB k) (PB k) (PB k) (pb_ok hk) (Nat.le_refl _) (Nat.le_refl _) _ _ _ _ _ _ _ _ _ _ _ _ _ _ _ _ _ _ _ ha hb
theorem cmp_k (ha : QK k w an aA ak ac an' aA' ak' ac' qa) (hb : QK k w bn bA bk bc bn' bA' bk' bc' qb) :
  Calls Tryz.prog 26 #[.agg #[.bool an, .slice aA ak ac, .bool an', .slice aA' ak' ac'], .agg #[.bool bn, .slice bA bk bc, .bool bn', .slice bA' bk' bc']] w fun e w' => e = .returned (.int .i64 (cmpQ qa qb)) ∧ Below w.heap.size w w' :=
 qcmp_any _ _ _ _ _ _ _ _ _ _ _ _ _ _ _ _ _ _ _ ha hb

theorem sign_k (ha : QK k w an aA ak ac an' aA' ak' ac' q) :
  Calls Tryz.prog 27 #[.agg #[.bool an, .slice aA ak ac, .bool an', .slice aA' ak' ac']] w fun e w' => e = .returned (.int .i64 (sgnQ q)) ∧ Below w.heap.size w w' := qsign_any _ _ _ _ _ _ _ _ _ _ ha
end

end Go.Proofs.YtodkhjihkkmplaaGreat
