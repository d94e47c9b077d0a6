/-
Plain law of an enumeration of all plans by their number: the first least one is the commitment. Many, of the statements on package commit. The reference of layer 29: Plan. No statement of the seat is proved here; no conditions beyond those of each theorem.
-/
import Derived.Test.YtdoeejcmaeefcaaGreatHQ
import Derived.Test.YtdoeejcmaeefcaaGreatHU
import Derived.Test.YtdoeejcmaeefcaaGreatIA
import Derived.Test.YtdoeejcmaeefcaaGreatJCra
import Derived.Test.YtdoeejcmaeefcaaGreatJCrd
import Derived.Lib.SliceRun
namespace Go.Proofs.YtdoeejcmaeefcaaGreat
set_option linter.unusedVariables false
set_option linter.unusedSimpArgs false
open Go.RowKit
open Wd
namespace Cm

/-- Plan number k: m rows of n booleans, the first the highest bit. -/
def planK (n m k : Nat) : List (List Bool) := (List.range m).map fun i => (List.range n).map fun j => k.testBit (n * m - 1 - (i * n + j))
theorem planK_len (n m k : Nat) : (planK n m k).length = m := by simp [planK]
theorem planK_rows (n m k : Nat) : ∀ r ∈ planK n m k, r.length = n := fun r hr => by
  obtain ⟨i, _, rfl⟩ := List.mem_map.1 hr
  simp
theorem planK_row {n m k i : Nat} (hi : i < m) : (planK n m k)[i]?.getD [] = (List.range n).map fun j => k.testBit (n * m - 1 - (i * n + j)) := by
  simp [planK, hi]
theorem planK_get {n m k i j : Nat} (hi : i < m) (hj : j < n) : ((planK n m k)[i]?.getD [])[j]?.getD false = k.testBit (n * m - 1 - (i * n + j)) := by
  rw [planK_row hi]
  simp [hj]
theorem pflat_len {n : Nat} : ∀ {pl : List (List Bool)}, (∀ r ∈ pl, r.length = n) → pl.flatten.length = pl.length * n
  | [], _ => by simp
  | r :: pl, h => by
    rw [List.flatten_cons, List.length_append, h r (List.mem_cons_self ..), pflat_len fun r hr => h r (List.mem_cons_of_mem _ hr), List.length_cons, Nat.succ_mul]
    omega
theorem pflat_get {n : Nat} : ∀ {pl : List (List Bool)} {i j : Nat}, (∀ r ∈ pl, r.length = n) → i < pl.length → j < n → pl.flatten[i * n + j]?.getD false = (pl[i]?.getD [])[j]?.getD false
  | [], i, j, _, hi, _ => by simp at hi
  | r :: pl, 0, j, h, _, hj => by
    have hr := h r (List.mem_cons_self ..)
    rw [List.flatten_cons, Nat.zero_mul, Nat.zero_add, List.getElem?_append_left (by omega)]
    rfl
  | r :: pl, i + 1, j, h, hi, hj => by
    have hr := h r (List.mem_cons_self ..)
    have e : (i + 1) * n + j = n + (i * n + j) := by rw [Nat.succ_mul]; omega
    rw [List.flatten_cons, e, List.getElem?_append_right (by omega), hr, Nat.add_sub_cancel_left, List.getElem?_cons_succ]
    exact pflat_get (fun r hr => h r (List.mem_cons_of_mem _ hr)) (by simpa using hi) hj
theorem num_append : ∀ a b : List Bool, num (a ++ b) = num a * 2 ^ b.length + num b
  | [], b => by simp [num]
  | x :: a, b => by
    rw [List.cons_append, num, num_append a b, num, List.length_append, Nat.add_mul, Nat.pow_add]
    cases x
    · simp
    · simp only [if_true]
      omega
theorem pflat_lt {n : Nat} {pl : List (List Bool)} (h : ∀ r ∈ pl, r.length = n) : num pl.flatten < 2 ^ (n * pl.length) := by
  have := num_lt pl.flatten
  rwa [pflat_len h, Nat.mul_comm] at this
theorem pflat_le {n : Nat} : ∀ {x y : List (List Bool)}, x.length = y.length → (∀ r ∈ x, r.length = n) → (∀ r ∈ y, r.length = n) → lexle (x.map num) (y.map num) → num x.flatten ≤ num y.flatten
  | [], [], _, _, _, _ => Nat.le_refl _
  | a :: x, b :: y, hl, hx, hy, h => by
    have hx' := fun r hr => hx r (List.mem_cons_of_mem _ hr)
    have hy' := fun r hr => hy r (List.mem_cons_of_mem _ hr)
    have hl' : x.length = y.length := by simpa using hl
    have l1 := pflat_len hx'
    have l2 := pflat_len hy'
    have hlt := num_lt x.flatten
    rw [List.flatten_cons, List.flatten_cons, num_append, num_append, l1, l2, hl']
    rw [l1, hl'] at hlt
    rcases h with h | ⟨h, h2⟩
    · have h3 := Nat.mul_le_mul_right (2 ^ (y.length * n)) (show num a + 1 ≤ num b from h)
      rw [Nat.add_mul, Nat.one_mul] at h3
      omega
    · rw [h]
      have := pflat_le hl' hx' hy' h2
      omega
  | [], _ :: _, hl, _, _, _ => by simp at hl
  | _ :: _, [], hl, _, _, _ => by simp at hl
theorem planK_num {n m : Nat} {pl : List (List Bool)} (hl : pl.length = m) (hr : ∀ r ∈ pl, r.length = n) : planK n m (num pl.flatten) = pl := by
  subst hl
  have hfl := pflat_len hr
  apply List.ext_getElem (planK_len _ _ _)
  intro i h1 h2
  have hi : i < pl.length := h2
  have e1 : (planK n pl.length (num pl.flatten))[i] = (planK n pl.length (num pl.flatten))[i]?.getD [] := by rw [List.getElem?_eq_getElem h1]; rfl
  have e2 : pl[i] = pl[i]?.getD [] := by rw [List.getElem?_eq_getElem h2]; rfl
  have hlr : (pl[i]?.getD []).length = n := by rw [← e2]; exact hr _ (List.getElem_mem h2)
  rw [e1, e2]
  refine ext_b ?_ fun j hj => ?_
  · rw [planK_row hi, hlr]; simp
  · rw [planK_row hi] at hj
    have hjn : j < n := by simpa using hj
    rw [planK_get hi hjn, ← pflat_get hr hi hjn]
    have h3 : (i + 1) * n ≤ pl.length * n := Nat.mul_le_mul_right n hi
    rw [Nat.add_mul, Nat.one_mul] at h3
    have hb := bitN_num (r := pl.flatten) (i := i * n + j) (by omega)
    rw [← hb, hfl, Nat.mul_comm n pl.length]
    unfold bitN
    congr 1

theorem planK_flat {n m k : Nat} (hk : k < 2 ^ (n * m)) : num (planK n m k).flatten = k := by
  have hfl := pflat_len (planK_rows n m k)
  rw [planK_len, Nat.mul_comm] at hfl
  have e : (planK n m k).flatten = bitsN (n * m) k := by
    refine ext_b (by rw [hfl, bitsN_len]) fun p hp => ?_
    rw [hfl] at hp
    rw [bitsN_get hp]
    have hn : 0 < n := Nat.pos_of_ne_zero fun h0 => by rw [h0] at hp; simp at hp
    have h1 : p / n < m := by rw [Nat.div_lt_iff_lt_mul hn, Nat.mul_comm]; exact hp
    have h2 := Nat.mod_lt p hn
    have h3 := Nat.div_add_mod p n
    rw [Nat.mul_comm] at h3
    have h4 := pflat_get (planK_rows n m k) (i := p / n) (j := p % n) (by rw [planK_len]; exact h1) h2
    rw [h3, planK_get h1 h2, h3] at h4
    exact h4
  rw [e]
  exact num_bitsN hk

/-- The enumeration's cost of plan number k. -/
noncomputable def enF (us : List Un) (hs : List Hr) (k : Nat) : Option Int := costB us hs (planK us.length hs.length k)
/-- What the enumeration keeps in the end is the commitment. -/
theorem enum_best {us : List Un} {hs : List Hr} : (bestV us hs = none → scan (enF us hs) (2 ^ (us.length * hs.length)) = none) ∧ (∀ c v, bestV us hs = some (c, v) → ∃ k, scan (enF us hs) (2 ^ (us.length * hs.length)) = some (k, v) ∧ planK us.length hs.length k = planB us hs) := by
  constructor
  · intro hb
    rw [scan_none]
    intro k hk
    cases e : enF us hs k with
    | none => rfl
    | some v =>
      obtain ⟨c, x, h1, _⟩ := plan_opt (planK_rows _ _ _) e
      rw [hb] at h1
      simp at h1
  · intro c v hb
    obtain ⟨h1, h2, _, h4⟩ := planB_shape hb
    have hk := pflat_lt h2
    rw [h1] at hk
    have ek := planK_num h1 h2
    refine ⟨num (planB us hs).flatten, scan_some.2 ⟨hk, by unfold enF; rw [ek]; exact h4, fun k' v' hk' hv' => ?_⟩, ek⟩
    obtain ⟨c2, x, g1, g2, g3⟩ := plan_opt (planK_rows _ _ _) hv'
    rw [hb] at g1
    simp only [Option.some.injEq, Prod.mk.injEq] at g1
    obtain ⟨rfl, rfl⟩ := g1
    refine ⟨g2, fun hlt => ?_⟩
    have hne : v ≠ v' := fun he => by
      have g4 := pflat_le (by rw [h1, planK_len]) h2 (planK_rows _ _ _) (g3 he)
      have e5 := planK_flat (n := us.length) (m := hs.length) hk'
      omega
    omega

end Cm
end Go.Proofs.YtdoeejcmaeefcaaGreat

namespace Go.Proofs.YtdoeejcmaeefcaaGreat
set_option linter.unusedVariables false
set_option linter.unusedSimpArgs false
open Go.RowKit
open Wd
open Cm

theorem many_any (A B : Option Addr) (n c m d : Nat) (w : World) :
    Calls Tryz.prog 16 #[.slice A n c, .slice B m d] w fun e w' => e = .returned (.bool (decide (n ≤ 5 ∧ m ≤ 8 ∧ 9 < n * m))) ∧ Below w.heap.size w w' := by
  by_cases h1 : n ≤ 5
  · have k1 : (n : Int) ≤ 5 := by omega
    by_cases h2 : m ≤ 8
    · have k2 : (m : Int) ≤ 8 := by omega
      have k0 : (n : Int) * (m : Int) = ((n * m : Nat) : Int) := by push_cast; rfl
      have hb : n * m ≤ 5 * 8 := Nat.mul_le_mul h1 h2
      have wl : IntKind.i64.wrap ((n : Int) * (m : Int)) = ((n * m : Nat) : Int) := by rw [k0]; exact IntWalk.i64_in _ (by omega)
      by_cases h3 : 9 < n * m
      · have k3 : (9 : Int) < ((n * m : Nat) : Int) := by omega
        rw [decide_eq_true (⟨h1, h2, h3⟩ : n ≤ 5 ∧ m ≤ 8 ∧ 9 < n * m)]
        clear h1 h2 h3 hb k0
        generalize n * m = z at *
        go_enter Tryz.func16, Tryz.ntmps16
        go_wp2
        go_ret
        exact ⟨rfl, Below.refl _ _⟩
      · have k3 : ¬ (9 : Int) < ((n * m : Nat) : Int) := by omega
        rw [decide_eq_false (fun hh => h3 hh.2.2 : ¬ (n ≤ 5 ∧ m ≤ 8 ∧ 9 < n * m))]
        clear h1 h2 h3 hb k0
        generalize n * m = z at *
        go_enter Tryz.func16, Tryz.ntmps16
        go_wp2
        go_ret
        exact ⟨rfl, Below.refl _ _⟩
    · have k2 : ¬ (m : Int) ≤ 8 := by omega
      rw [decide_eq_false (fun hh => h2 hh.2.1 : ¬ (n ≤ 5 ∧ m ≤ 8 ∧ 9 < n * m))]
      go_enter Tryz.func16, Tryz.ntmps16
      go_wp2
      go_ret
      exact ⟨rfl, Below.refl _ _⟩
  · have k1 : ¬ (n : Int) ≤ 5 := by omega
    rw [decide_eq_false (fun hh => h1 hh.1 : ¬ (n ≤ 5 ∧ m ≤ 8 ∧ 9 < n * m))]
    go_enter Tryz.func16, Tryz.ntmps16
    go_wp2
    go_ret
    exact ⟨rfl, Below.refl _ _⟩

end Go.Proofs.YtdoeejcmaeefcaaGreat

namespace Go.Proofs.YtdoeejcmaeefcaaGreat
set_option linter.unusedVariables false
set_option linter.unusedSimpArgs false
open Go.RowKit
open Wd
open Cm

theorem OwnPl.below {w w' : World} {base g : Nat} {pl : List (List Bool)} (h : OwnPl w base g pl) (hb : Below w.heap.size w w') : OwnPl w' base g pl := by
  obtain ⟨h1, gl, h2, h3, h4⟩ := h
  exact ⟨h1, gl, h2, Kp.blk hb h3, fun j hj => ⟨(h4 j hj).1, Kp.blk hb (h4 j hj).2⟩⟩
theorem plC_get {m n i : Nat} {gl : List Nat} (h : i < gl.length) : (plC m n gl)[i]? = some (.slice (some ⟨gl[i]?.getD 0, 0, none⟩) n n) := by
  unfold plC
  rw [List.getElem?_toArray, List.getElem?_append_left (by simpa using h)]
  simp [h]
theorem plC_nil (m n : Nat) : plC m n [] = Array.replicate m (Value.slice none 0 0) := by simp [plC]
theorem plC_free {m n i : Nat} {gl : List Nat} (h : gl.length = i) (hi : i < m) : (plC m n gl)[i]? = some (.slice none 0 0) := by
  subst h
  unfold plC
  rw [List.getElem?_toArray, List.getElem?_append_right (by simp)]
  simp [show 0 < m - gl.length by omega]
/-- The row i of plan number k. -/
def rowK (n m k i : Nat) : List Bool := (planK n m k)[i]?.getD []
theorem rowK_len {n m k i : Nat} (hi : i < m) : (rowK n m k i).length = n := by unfold rowK; rw [planK_row hi]; simp
/-- The rows of plan number k that are laid. -/
def MI (n m k : Nat) (wu : World) (gp i : Nat) (wr : World) : Prop :=
  Kp wu wr ∧ ∃ gl : List Nat, gl.length = i ∧ Blk wr gp 35 (plC m n gl) ∧ ∀ t, t < i → wu.heap.size ≤ gl[t]?.getD 0 ∧ BRow wr (gl[t]?.getD 0) (rowK n m k t)
theorem MI.start (n m k : Nat) (wu : World) : MI n m k wu wu.heap.size 0 (wu.alloc (.cells (Array.replicate m (.slice none 0 0)) 35)) :=
  ⟨(Kp.refl wu).alloc _, [], rfl, by rw [plC_nil]; exact Blk.new wu _ _, fun t ht => absurd ht (by omega)⟩
/-- A row is laid, and its first j places hold. -/
def RI (n m k : Nat) (i : Nat) (wv W1 : World) (j : Nat) (wr : World) : Prop :=
  ∃ xs : List Bool, xs.length = n ∧ Below wv.heap.size W1 wr ∧ BRow wr wv.heap.size xs ∧ ∀ t, t < j → xs[t]?.getD false = (rowK n m k i)[t]?.getD false
theorem RI.start (n m k i gp : Nat) (wv : World) (hgp : gp < wv.heap.size) : RI n m k i wv ((wv.alloc (.cells (Array.replicate n (Value.bool false)) 4)).setCell ⟨gp, i, none⟩ (.slice (some ⟨wv.heap.size, 0, none⟩) n n)) 0 ((wv.alloc (.cells (Array.replicate n (Value.bool false)) 4)).setCell ⟨gp, i, none⟩ (.slice (some ⟨wv.heap.size, 0, none⟩) n n)) := by
  refine ⟨List.replicate n false, by simp, Below.refl _ _, ?_, fun t ht => absurd ht (by omega)⟩
  have h1 : BRow (wv.alloc (.cells (Array.replicate n (Value.bool false)) 4)) wv.heap.size (List.replicate n false) := by
    have := Blk.new wv 4 (Array.replicate n (Value.bool false))
    simpa [BRow] using this
  exact Blk.far h1 (p := ⟨gp, i, none⟩) (show wv.heap.size ≠ gp by omega) _
theorem RI.step {n m k i j : Nat} {wv W1 wr : World} (h : RI n m k i wv W1 j wr) (hj : j < n) : RI n m k i wv W1 (j + 1) (wr.setCell ⟨wv.heap.size, j, none⟩ (.bool ((rowK n m k i)[j]?.getD false))) := by
  obtain ⟨xs, h1, h2, h3, h4⟩ := h
  refine ⟨xs.set j ((rowK n m k i)[j]?.getD false), by rw [List.length_set]; exact h1, Below.setCell h2 (p := ⟨wv.heap.size, j, none⟩) (Nat.le_refl _) _, h3.set j _, fun t ht => ?_⟩
  rw [List.getElem?_set]
  split
  · rename_i he
    subst he
    rw [if_pos (by omega)]
    rfl
  · exact h4 t (by omega)
theorem RI.drew {n m k i j : Nat} {wv W1 wr : World} (h : RI n m k i wv W1 j wr) : RI n m k i wv W1 j wr.drew := by
  obtain ⟨xs, h1, h2, h3, h4⟩ := h
  exact ⟨xs, h1, Below.drew h2, h3, h4⟩
theorem MI.laid {n m k gp i : Nat} {wu wv : World} {gl : List Nat} (hi : i < m) (h1 : gl.length = i) (h2 : Blk wv gp 35 (plC m n gl)) :
    Blk ((wv.alloc (.cells (Array.replicate n (Value.bool false)) 4)).setCell ⟨gp, i, none⟩ (.slice (some ⟨wv.heap.size, 0, none⟩) n n)) gp 35 (plC m n (gl ++ [wv.heap.size])) := by
  have h := (h2.alloc (.cells (Array.replicate n (Value.bool false)) 4)).set i (.slice (some ⟨wv.heap.size, 0, none⟩) n n)
  rw [← h1] at h ⊢
  rwa [plC_set (by omega)] at h
theorem RI.gp {n m k gp i j : Nat} {wu wv wr : World} {gl : List Nat} (hi : i < m) (h1 : gl.length = i) (h2 : Blk wv gp 35 (plC m n gl)) (h : RI n m k i wv ((wv.alloc (.cells (Array.replicate n (Value.bool false)) 4)).setCell ⟨gp, i, none⟩ (.slice (some ⟨wv.heap.size, 0, none⟩) n n)) j wr) :
    wr.cell? ⟨gp, i, none⟩ = some (.slice (some ⟨wv.heap.size, 0, none⟩) n n) := by
  obtain ⟨xs, _, hb, _, _⟩ := h
  have h3 := (MI.laid (wu := wu) (k := k) hi h1 h2).below hb h2.lt
  rw [h3.cell, plC_get (by simp [h1]), List.getElem?_append_right (by omega), h1, Nat.sub_self]
  rfl
theorem RI.fin {n m k gp i : Nat} {wu wv wr : World} {gl : List Nat} (hi : i < m) (h0 : Kp wu wv) (h1 : gl.length = i) (h2 : Blk wv gp 35 (plC m n gl)) (h3 : ∀ t, t < i → wu.heap.size ≤ gl[t]?.getD 0 ∧ BRow wv (gl[t]?.getD 0) (rowK n m k t)) (hgp : wu.heap.size ≤ gp)
    (h : RI n m k i wv ((wv.alloc (.cells (Array.replicate n (Value.bool false)) 4)).setCell ⟨gp, i, none⟩ (.slice (some ⟨wv.heap.size, 0, none⟩) n n)) n wr) : MI n m k wu gp (i + 1) wr := by
  obtain ⟨xs, q1, q2, q3, q4⟩ := h
  have hx : xs = rowK n m k i := ext_b (by rw [q1, rowK_len hi]) fun t ht => q4 t (by omega)
  subst hx
  have hk1 : Kp wu ((wv.alloc (.cells (Array.replicate n (Value.bool false)) 4)).setCell ⟨gp, i, none⟩ (.slice (some ⟨wv.heap.size, 0, none⟩) n n)) := (h0.alloc _).set (p := ⟨gp, i, none⟩) hgp _
  have hsz : wu.heap.size ≤ wv.heap.size := h0.size
  refine ⟨Below.trans hk1 (q2.mono hsz), gl ++ [wv.heap.size], by simp [h1], (MI.laid (wu := wu) (k := k) hi h1 h2).below q2 h2.lt, fun t ht => ?_⟩
  by_cases hti : t < i
  · rw [List.getElem?_append_left (by omega)]
    obtain ⟨p1, p2⟩ := h3 t hti
    have hne := Blk.apart p2 h2 (by decide)
    exact ⟨p1, Blk.below (Blk.far (Blk.alloc p2 _) (p := ⟨gp, i, none⟩) hne _) q2 p2.lt⟩
  · obtain rfl : t = i := by omega
    rw [List.getElem?_append_right (by omega), h1, Nat.sub_self]
    exact ⟨hsz, q3⟩
theorem MI.own {n m k gp : Nat} {w wu wr : World} (h : MI n m k wu gp m wr) (hgp : wu.heap.size ≤ gp) (hw : w.heap.size ≤ wu.heap.size) : OwnPl wr w.heap.size gp (planK n m k) := by
  obtain ⟨_, gl, h1, h2, h3⟩ := h
  refine ⟨by omega, gl, by rw [h1, planK_len], ?_, fun j hj => ?_⟩
  · rw [← plC_full h1 (planK_len n m k) (planK_rows n m k)]
    exact h2
  · rw [planK_len] at hj
    have := h3 j hj
    exact ⟨by omega, this.2⟩
/-- What the enumeration keeps. -/
def EnB (n m : Nat) (w : World) (s : Option (Nat × Int)) (bv lv : Value) (wr : World) : Prop :=
  Below w.heap.size w wr ∧ match s with
  | none => bv = .slice none 0 0 ∧ lv = .int .i64 0
  | some (c, v) => lv = .int .i64 v ∧ ∃ g, bv = .slice (some ⟨g, 0, none⟩) m m ∧ OwnPl wr w.heap.size g (planK n m c)
theorem EnB.below {n m : Nat} {w : World} {s : Option (Nat × Int)} {bv lv : Value} {wr wr' : World} (h : EnB n m w s bv lv wr) (hb : Kp wr wr') : EnB n m w s bv lv wr' := by
  refine ⟨h.1.trans (Below.mono hb h.1.size), ?_⟩
  have h2 := h.2
  cases s with
  | none => exact h2
  | some p =>
    obtain ⟨e, g, e2, ho⟩ := h2
    exact ⟨e, g, e2, ho.below hb⟩
theorem cost_en {us : List Un} {hs : List Hr} {k : Nat} (hc : cchk us hs = 0) : costV us hs (planK us.length hs.length k) = match enF us hs k with | none => (0, 3) | some v => (v, 0) := by
  unfold costV enF
  rw [if_neg (by simp [hc]), if_pos ⟨planK_len _ _ _, planK_rows _ _ _⟩]
  cases costB us hs (planK us.length hs.length k) <;> rfl
theorem testBit_rem {k s : Nat} : (Int.tmod ((k : Int) / 2 ^ s) 2 == 1) = k.testBit s := by
  have h1 : (k : Int) / 2 ^ s = ((k / 2 ^ s : Nat) : Int) := by push_cast; rfl
  have h2 : Int.tmod ((k / 2 ^ s : Nat) : Int) 2 = ((k / 2 ^ s % 2 : Nat) : Int) := rfl
  rw [h1, h2, Nat.testBit_eq_decide_div_mod_eq]
  have := Nat.mod_two_eq_zero_or_one (k / 2 ^ s)
  rcases this with h | h <;> simp [h]

theorem eql_nil (a : Option Addr) (l c : Nat) (W : World) : (binOp .eql 24 (.slice a l c) (.slice none 0 0)).run Tryz.prog W = .ok (.bool a.isNone) W :=
  Lib.run_eql_slice_nil W 24 _ a l c 0 0 Tryz.underlying24
set_option maxRecDepth 100000 in
set_option maxHeartbeats 8000000 in
theorem r29Plan_raw (A B : Option Addr) (n c m d : Nat) (us : List Un) (hs : List Hr) (w : World) (h : UsAt w A n us) (h' : HsAt w B m hs) (hnm : cchk us hs = 0 → n * m ≤ 9) :
    Calls Tryz.prog 17 #[.slice A n c, .slice B m d] w (PnR us hs w) := by
  have T0 := Lib.hid (r29check_raw A B n c m d us hs w h h')
  by_cases hc : cchk us hs = 0
  · rw [hc] at T0
    obtain ⟨k1, k2, k3, k4, k5⟩ := cchk_ok.1 hc
    have hnl := h.1
    have hml := h'.1
    have hn5 : n ≤ 5 := by omega
    have hm8 : m ≤ 8 := by omega
    have hm0 : 0 < m := by rw [← hml]; omega
    have hN9 := hnm hc
    have HU := Lib.hid h
    have HH := Lib.hid h'
    have HC := Lib.hid hc
    have HNL := Lib.hid hnl
    have HML := Lib.hid hml
    have HEB := Lib.hid (enum_best (us := us) (hs := hs))
    have HCE := Lib.hid (fun k => cost_en (k := k) hc)
    rw [hnl, hml] at HEB HCE
    have hcn : ((n : Int) * (m : Int)) = ((n * m : Nat) : Int) := by push_cast; rfl
    have hmk := fun W => run_make_plan m (by omega) W
    have hmb := fun W => run_make_bools n (by omega) W
    have HQ := Lib.hid (fun i (hi : i < m) => show i * n + n ≤ n * m by
      have := Nat.mul_le_mul_right n (show i + 1 ≤ m from hi)
      rw [Nat.succ_mul, Nat.mul_comm m] at this
      exact this)
    have HKG := Lib.hid (fun k i j (hi : i < m) (hj : j < n) => show (rowK n m k i)[j]?.getD false = k.testBit (n * m - 1 - (i * n + j)) from planK_get hi hj)
    generalize hNe : n * m = N at *
    have HNE := Lib.hid hNe
    have wN : IntKind.i64.wrap ((n : Int) * (m : Int)) = (N : Int) := by rw [hcn]; exact IntWalk.i64_in _ (by omega)
    have hK : 2 ^ N ≤ 512 := Nat.le_trans (Nat.pow_le_pow_right (by decide) hN9) (by decide)
    have w9 : wrap64 ((2 : Int) ^ N) = ((2 ^ N : Nat) : Int) := by
      have h9 : ((2 : Int) ^ N) = ((2 ^ N : Nat) : Int) := by push_cast; rfl
      rw [h9]
      revert hK
      generalize 2 ^ N = M
      intro hK
      exact (wrap_in (M : Int) (by omega) (by omega)).2
    have hq1 : ∀ (W : World), (binOp .eql 24 (.slice none 0 0) (.slice none 0 0)).run Tryz.prog W = .ok (.bool true) W := fun W => eql_nil none 0 0 W
    have hq2 : ∀ (g : Nat) (W : World), (binOp .eql 24 (.slice (some ⟨g, 0, none⟩) m m) (.slice none 0 0)).run Tryz.prog W = .ok (.bool false) W := fun g W => eql_nil (some ⟨g, 0, none⟩) m m W
    generalize hKe : 2 ^ N = K at *
    have HKE := Lib.hid hKe
    clear h h' hc k1 k2 k3 k4 k5 hnl hml hnm hcn hNe hKe
    go_enter Tryz.func17, Tryz.ntmps17
    go_wp2_with fail
    refine T0.out.mono ?_
    rintro e w1 ⟨rfl, hb1⟩
    have HB1 := Lib.hid hb1
    clear T0 hb1
    go_wp2_with fail
    go_loopw [8, 9, 10] (fun t8 t9 t wr => ∃ k : Nat, k ≤ K ∧ t = .int .i64 k ∧ Hid (EnB n m w (scan (enF us hs) k) t8 t9 wr)) (fun _ _ t _ => K - (intOf t).toNat)
    case atStart => exact ⟨0, Nat.zero_le _, rfl, HB1.out, rfl, rfl⟩
    case round =>
      clear HB1
      obtain ⟨k, hk, rfl, hR⟩ := hrel
      obtain ⟨wu, rfl⟩ : ∃ v, v = wr := ⟨_, rfl⟩
      by_cases hlt : k < K
      · have HMI := Lib.hid (MI.start n m k wu)
        have HEN := Lib.hid hR.out
        have hlt' : (k : Int) < (K : Int) := by omega
        clear hR
        go_wp2_with fail
        go_loopw [12, 13] (fun t12 t wr2 => ∃ (i : Nat) (ta : Int), i ≤ m ∧ t = .int .i64 i ∧ t12 = .int .i64 ta ∧ ta = ((N - i * n : Nat) : Int) ∧ Hid (MI n m k wu wu.heap.size i wr2)) (fun _ t _ => m - (intOf t).toNat)
        case atStart => exact ⟨0, _, Nat.zero_le _, rfl, rfl, by simp, HMI.out⟩
        case round =>
          clear HMI
          obtain ⟨i, ta, hi, rfl, rfl, hta, hRM⟩ := hrel
          obtain ⟨wv, rfl⟩ : ∃ v, v = wr := ⟨_, rfl⟩
          by_cases hli : i < m
          · obtain ⟨q0, gl, q1, q2, q3⟩ := hRM.out
            have z0 := ((q2.alloc (.cells (Array.replicate n (Value.bool false)) 4)).cell i).trans (plC_free q1 hli)
            have z1 := (q2.alloc (.cells (Array.replicate n (Value.bool false)) 4)).frozen i
            have HRI := Lib.hid (RI.start n m k i wu.heap.size wv q2.lt)
            have HGP := Lib.hid (fun j wr hx => RI.gp (j := j) (wr := wr) (wu := wu) (k := k) hli q1 q2 hx)
            have HFN := Lib.hid (fun wr hx => RI.fin (wr := wr) hli q0 q1 q2 q3 (Nat.le_refl _) hx)
            have i1 : (0 : Int) ≤ (i : Int) := by omega
            have i2 : (i : Int) < (m : Int) := by omega
            clear hRM q0 q1 q2 q3
            go_wp2_with fail
            clear z0 z1
            go_loopw [12, 14] (fun t12 t wr3 => ∃ (j : Nat) (tb : Int), j ≤ n ∧ t = .int .i64 j ∧ t12 = .int .i64 tb ∧ tb = ((N - (i * n + j) : Nat) : Int) ∧ Hid (RI n m k i wv ((wv.alloc (.cells (Array.replicate n (Value.bool false)) 4)).setCell ⟨wu.heap.size, i, none⟩ (.slice (some ⟨wv.heap.size, 0, none⟩) n n)) j wr3)) (fun _ t _ => n - (intOf t).toNat)
            case atStart => exact ⟨0, ta, Nat.zero_le _, rfl, rfl, by simpa using hta, HRI.out⟩
            case round =>
              clear HRI
              obtain ⟨j, tb, hj, rfl, rfl, htb, hR3⟩ := hrel
              obtain ⟨wt, rfl⟩ : ∃ v, v = wr := ⟨_, rfl⟩
              by_cases hlj : j < n
              · have hq := HQ.out i hli
                obtain ⟨s, hs'⟩ : ∃ s : Nat, s = N - 1 - (i * n + j) := ⟨_, rfl⟩
                have ws : IntKind.i64.wrap (tb - 1) = (s : Int) := by rw [IntWalk.i64_in _ (by omega)]; omega
                have hsz : (s : Int) = ((N - (i * n + (j + 1)) : Nat) : Int) := by omega
                have HSZ := Lib.hid hsz
                have d0 := HGP.out j wt hR3.out
                obtain ⟨xs, p1, p2, p3, p4⟩ := hR3.out
                have z0 := p3.cell (i := j) (by omega)
                have z1 := Blk.frozen p3 j
                have hn := RI.step hR3.out hlj
                rw [HKG.out k i j hli hlj, ← hs'] at hn
                have hrem : (Int.tmod ((k : Int) / 2 ^ min s 64) 2 == 1) = k.testBit s := by
                  rw [show min s 64 = s by omega]
                  exact testBit_rem
                generalize xs[j]?.getD false = old at z0
                generalize k.testBit s = bb at *
                have HN := Lib.hid hn
                have j1 : (0 : Int) ≤ (j : Int) := by omega
                have j2 : (j : Int) < (n : Int) := by omega
                have s1 : (0 : Int) ≤ (s : Int) := by omega
                clear hn hs' hq htb hta hsz p1 p2 p3 p4 hR3
                go_wp2
                go_region
                all_goals go_wp2
                all_goals go_roundw
                case rel => exact ⟨j + 1, _, by omega, by go_num, rfl, HSZ.out, Lib.hid HN.out.drew⟩
                case measure => simp [intOf]; omega
              · obtain rfl : n = j := by omega
                have HNX := Lib.hid (HFN.out wt hR3.out)
                have HTB := Lib.hid (show tb = ((N - (i + 1) * n : Nat) : Int) by rw [Nat.succ_mul]; exact htb)
                clear hR3 htb hta
                go_wp2
                go_roundw
                case rel => exact ⟨i + 1, _, by omega, by go_num, rfl, HTB.out, HNX.out⟩
                case measure => simp [intOf]; omega
          · obtain rfl : m = i := by omega
            have hkp := hRM.out.1
            have hown := hRM.out.own (w := w) (Nat.le_refl _) HEN.out.1.size
            have hen := HEN.out.below hkp
            have hbw := hen.1
            have T := r29cost_raw A B (some ⟨wu.heap.size, 0, none⟩) n c m d m us hs (planK n m k) wv (HU.out.below hbw) (HH.out.below hbw) (hown.at (planK_len n m k)) HC.out (planK_rows n m k)
            rw [HCE.out k] at T
            have HST := Lib.hid (scan_step (f := enF us hs) k)
            have HEW := Lib.hid hen
            have HOW := Lib.hid hown
            clear HEN hkp hown hen hbw hRM hta
            cases e : enF us hs k with
            | none =>
              rw [e] at T
              have TT := Lib.hid (show Calls Tryz.prog 35 #[.slice A n c, .slice B m d, .slice (some ⟨wu.heap.size, 0, none⟩) m m] wv fun e w' => e = .returned (.tuple #[.int .i64 0, .bool false]) ∧ Below wv.heap.size wv w' from T)
              have HS1 := Lib.hid (show scan (enF us hs) (k + 1) = scan (enF us hs) k by rw [HST.out, e])
              clear T
              clear e
              go_wp2_with fail
              refine TT.out.mono ?_
              rintro e w4 ⟨rfl, hb4⟩
              have HN := Lib.hid (HEW.out.below hb4)
              rw [← HS1.out] at HN
              clear TT hb4
              go_wp2
              go_roundw
              case rel => exact ⟨k + 1, by omega, by go_num, HN.out⟩
              case measure => simp [intOf]; omega
            | some v =>
              rw [e] at T
              have TT := Lib.hid (show Calls Tryz.prog 35 #[.slice A n c, .slice B m d, .slice (some ⟨wu.heap.size, 0, none⟩) m m] wv fun e w' => e = .returned (.tuple #[.int .i64 v, .bool true]) ∧ Below wv.heap.size wv w' from T)
              clear T
              cases es : scan (enF us hs) k with
              | none =>
                have hew := HEW.out
                rw [es] at hew
                obtain ⟨hbw, rfl, rfl⟩ := hew
                have HS1 := Lib.hid (show scan (enF us hs) (k + 1) = some (k, v) by rw [HST.out, e, es])
                have HBW := Lib.hid hbw
                clear e es HEW hbw
                go_wp2_with fail
                refine TT.out.mono ?_
                rintro e w4 ⟨rfl, hb4⟩
                have HN := Lib.hid (show EnB n m w (scan (enF us hs) (k + 1)) (.slice (some ⟨wu.heap.size, 0, none⟩) m m) (.int .i64 v) w4 by
                  rw [HS1.out]
                  exact ⟨HBW.out.trans (Below.mono hb4 HBW.out.size), rfl, _, rfl, HOW.out.below hb4⟩)
                clear TT hb4
                go_wp2
                go_roundw
                case rel => exact ⟨k + 1, by omega, by go_num, HN.out⟩
                case measure => simp [intOf]; omega
              | some cx =>
                obtain ⟨c0, x⟩ := cx
                have hew := HEW.out
                rw [es] at hew
                obtain ⟨hbw, rfl, g0, rfl, ho⟩ := hew
                have HBW := Lib.hid hbw
                have HO := Lib.hid ho
                clear HEW hbw ho
                by_cases hvx : v < x
                · have HS1 := Lib.hid (show scan (enF us hs) (k + 1) = some (k, v) by rw [HST.out, e, es]; simp only [hvx, if_true])
                  clear e es
                  go_wp2_with fail
                  refine TT.out.mono ?_
                  rintro e w4 ⟨rfl, hb4⟩
                  have HN := Lib.hid (show EnB n m w (scan (enF us hs) (k + 1)) (.slice (some ⟨wu.heap.size, 0, none⟩) m m) (.int .i64 v) w4 by
                    rw [HS1.out]
                    exact ⟨HBW.out.trans (Below.mono hb4 HBW.out.size), rfl, _, rfl, HOW.out.below hb4⟩)
                  clear TT hb4
                  go_wp2
                  go_roundw
                  case rel => exact ⟨k + 1, by omega, by go_num, HN.out⟩
                  case measure => simp [intOf]; omega
                · have HS1 := Lib.hid (show scan (enF us hs) (k + 1) = some (c0, x) by rw [HST.out, e, es]; simp only [hvx, if_false])
                  clear e es
                  go_wp2_with fail
                  refine TT.out.mono ?_
                  rintro e w4 ⟨rfl, hb4⟩
                  have HN := Lib.hid (show EnB n m w (scan (enF us hs) (k + 1)) (.slice (some ⟨g0, 0, none⟩) m m) (.int .i64 x) w4 by
                    rw [HS1.out]
                    exact ⟨HBW.out.trans (Below.mono hb4 HBW.out.size), rfl, _, rfl, HO.out.below hb4⟩)
                  clear TT hb4
                  go_wp2
                  go_roundw
                  case rel => exact ⟨k + 1, by omega, by go_num, HN.out⟩
                  case measure => simp [intOf]; omega
      · obtain rfl : K = k := by omega
        cases hb : bestV us hs with
        | none =>
          have e := HEB.out.1 hb
          have hew := hR.out
          rw [e] at hew
          obtain ⟨hB, rfl, rfl⟩ := hew
          have HF := Lib.hid hB
          have HBB := Lib.hid hb
          clear hR hB e hb
          go_wp2
          go_ret2
          exact ⟨HF.out, Or.inr (Or.inl ⟨HC.out, HBB.out, rfl⟩)⟩
        | some cv =>
          obtain ⟨c0, v0⟩ := cv
          obtain ⟨kk, e, ep⟩ := HEB.out.2 c0 v0 hb
          have hew := hR.out
          rw [e] at hew
          obtain ⟨hB, rfl, g, rfl, ho⟩ := hew
          rw [ep] at ho
          have HF := Lib.hid hB
          have HO := Lib.hid ho
          have HBB := Lib.hid hb
          clear hR hB e ep ho hb
          go_wp2
          go_ret2
          exact ⟨HF.out, Or.inr (Or.inr ⟨HC.out, ⟨_, _, HBB.out⟩, g, by rw [HML.out]; rfl, HO.out⟩)⟩
  · have hb : (cchk us hs != 0) = true := by simpa using hc
    have HC := Lib.hid hc
    generalize hz : cchk us hs = ce at *
    have HZ := Lib.hid hz
    clear h h' hc hnm hz
    go_enter Tryz.func17, Tryz.ntmps17
    go_wp2_with fail
    refine T0.out.mono ?_
    rintro e w1 ⟨rfl, hb1⟩
    go_wp2
    go_ret2
    exact ⟨hb1, Or.inl ⟨by rw [HZ.out]; exact HC.out, by rw [HZ.out]; rfl⟩⟩

end Go.Proofs.YtdoeejcmaeefcaaGreat
