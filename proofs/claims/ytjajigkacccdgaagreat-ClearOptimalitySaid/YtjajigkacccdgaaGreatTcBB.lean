/-
Check and Total of package stack, at a valid stack. A merged stack is valid, and lies in memory as its levels. No statement of the seat is proved here; no conditions beyond those of each theorem.
-/
import Derived.Test.YtjajigkacccdgaaGreatTcBA
namespace Go.Proofs.YtjajigkacccdgaaGreat
set_option linter.unusedVariables false
set_option linter.unusedSimpArgs false
open Go.RowKit
open Wd

abbrev Lv0 : St.Lv := (0, 0, [])
/-- A stack in memory. -/
def LvAt (w : World) (A : Option Addr) (m n : Nat) (lv : List St.Lv) : Prop :=
 lv.length = m ∧ (m ≠ 0 → ∃ b o, A = some ⟨b, o, none⟩ ∧ b < w.heap.size ∧ ∀ j, j < m → ∃ A' c', (w.cell? ⟨b, o + j * 3, none⟩ = some (.int .i64 (lv[j]?.getD Lv0).1) ∧ w.cell? ⟨b, o + j * 3 + 1, none⟩ = some (.int .i64 (lv[j]?.getD Lv0).2.1) ∧ w.cell? ⟨b, o + j * 3 + 2, none⟩ = some (.slice A' n c')) ∧ IsAt w A' n (lv[j]?.getD Lv0).2.2)
theorem LvAt.below {w w' : World} {A : Option Addr} {m n : Nat} {lv : List St.Lv} (h : LvAt w A m n lv) (hb : Below w.heap.size w w') : LvAt w' A m n lv := by
 refine ⟨h.1, fun hn => ?_⟩
 obtain ⟨b, o, rfl, hlt, hc⟩ := h.2 hn
 refine ⟨b, o, rfl, Nat.lt_of_lt_of_le hlt hb.size, fun j hj => ?_⟩
 obtain ⟨A', c', ⟨h1, h2, h3⟩, h4⟩ := hc j hj
 exact ⟨A', c', ⟨(hb.cell hlt).trans h1, (hb.cell hlt).trans h2, (hb.cell hlt).trans h3⟩, h4.below hb⟩
def sumI : List Int → Int
 | [] => 0
 | x :: xs => x + sumI xs
/-- A stack that passes its check. -/
structure VL (up : Bool) (n : Nat) (lv : List St.Lv) : Prop where
 len : lv.length ≤ 48
 n0 : lv.length ≠ 0 → 1 ≤ n
 n16 : n ≤ 16
 price : ∀ x ∈ lv, -1000000 ≤ x.1 ∧ x.1 ≤ 1000000
 parts : ∀ x ∈ lv, x.2.2.length = n ∧ ∀ y ∈ x.2.2, 0 ≤ y ∧ y ≤ 1000000
 sum : ∀ x ∈ lv, x.2.1 = sumI x.2.2 ∧ x.2.1 ≠ 0
 mono : (lv.map (·.1)).Pairwise (St.ltU up)
theorem sumI_bd : ∀ (xs : List Int), (∀ y ∈ xs, 0 ≤ y ∧ y ≤ 1000000) → 0 ≤ sumI xs ∧ sumI xs ≤ 1000000 * (xs.length : Int)
 | [], _ => by simp [sumI]
 | x :: xs, h => by
  have h1 := h x (List.mem_cons_self ..)
  have h2 := sumI_bd xs fun y hy => h y (List.mem_cons_of_mem _ hy)
  rw [sumI, List.length_cons]
  omega
theorem sumI_snoc : ∀ (xs : List Int) (y : Int), sumI (xs ++ [y]) = sumI xs + y
 | [], y => by simp [sumI]
 | x :: xs, y => by rw [List.cons_append, sumI, sumI_snoc xs y, sumI]; omega
theorem take_int {xs : List Int} {k : Nat} (hk : k < xs.length) : xs.take (k + 1) = xs.take k ++ [xs[k]?.getD 0] := by
 rw [List.take_add_one, List.getElem?_eq_getElem hk]; rfl
theorem VL.lt {up : Bool} {n : Nat} {lv : List St.Lv} (h : VL up n lv) {i j : Nat} (hi : i < j) (hj : j < lv.length) : St.ltU up (lv[i]?.getD Lv0).1 (lv[j]?.getD Lv0).1 := by
 have := List.pairwise_iff_getElem.1 h.mono i j (by simp; omega) (by simpa using hj) hi
 rw [List.getElem?_eq_getElem (by omega), List.getElem?_eq_getElem hj]
 simpa using this

set_option maxHeartbeats 2000000 in
theorem inRange_ok (p q : Int) (A' : Option Addr) (n c' : Nat) (xs : List Int) (w : World) (h : IsAt w A' n xs) (hp1 : -1000000 ≤ p) (hp2 : p ≤ 1000000) (hn1 : 1 ≤ n) (hn2 : n ≤ 16) (hx : ∀ y ∈ xs, 0 ≤ y ∧ y ≤ 1000000) :
  Calls Tryz.prog 81 #[.agg #[.int .i64 p, .int .i64 q, .slice A' n c']] w fun e w' => e = .returned (.bool true) ∧ Below w.heap.size w w' := by
 have HX := Lib.hid h
 have HLN := Lib.hid h.1
 have HB := Lib.hid hx
 have d1 : decide (p < -1000000) = false := by simp; omega
 have d2 : decide (1000000 < p) = false := by simp; omega
 have d3 : decide ((n : Int) < 1) = false := by simp; omega
 have d4 : decide ((16 : Int) < (n : Int)) = false := by simp; omega
 clear h hx
 go_enter Tryz.func81, Tryz.ntmps81
 go_wp2_with fail
 have hbx := Blk.new w 64 #[.int .i64 p, .int .i64 q, .slice A' n c']
 have hb0 : Below w.heap.size w (w.alloc (.cells #[.int .i64 p, .int .i64 q, .slice A' n c'] 64)) := (Below.refl _ _).alloc (Nat.le_refl _) _
 generalize w.alloc (.cells #[.int .i64 p, .int .i64 q, .slice A' n c'] 64) = W at *
 go_loopw [26] (fun t wr => ∃ k : Nat, k ≤ n ∧ t = .int .i64 k ∧ Hid (wr = W)) (fun t _ => n - (intOf t).toNat)
 case atStart => exact ⟨0, Nat.zero_le _, rfl, by first | exact Lib.hid rfl | exact Lib.hid trivial⟩
 case round =>
  obtain ⟨k, hk, rfl, hW⟩ := hrel
  obtain rfl := hW.out
  by_cases hlt : k < n
  ·obtain ⟨b, o, rfl, hb, hcell⟩ := HX.out.2 (by omega)
   have hc := (hb0.cell (p := ⟨b, o + k, none⟩) hb).trans (hcell k hlt)
   have hy := HB.out _ (getD_mem (d := 0) (show k < xs.length by rw [HLN.out]; exact hlt))
   generalize xs[k]?.getD 0 = y at *
   have e1 : decide (y < 0) = false := by simp; omega
   have e2 : decide (1000000 < y) = false := by simp; omega
   have hki1 : (0 : Int) ≤ (k : Int) := by omega
   have hki2 : (k : Int) < (n : Int) := by omega
   clear hcell hy
   go_wp2
   go_roundw
   case rel => exact ⟨k + 1, by omega, by go_num, by first | exact Lib.hid rfl | exact Lib.hid trivial⟩
   case measure => simp [intOf]; omega
  ·obtain rfl : k = n := by omega
   have HB0 := Lib.hid hb0
   go_wp2
   go_ret
   exact ⟨rfl, HB0.out⟩

set_option maxRecDepth 100000 in
set_option maxHeartbeats 4000000 in
theorem moves_ok (up : Bool) (A : Option Addr) (m n c i : Nat) (lv : List St.Lv) (w : World) (h : LvAt w A m n lv) (hv : VL up n lv) (hi : i < m) :
  Calls Tryz.prog 82 #[.slice A m c, .int .i64 i] w fun e w' => e = .returned (.bool true) ∧ Below w.heap.size w w' := by
 have hl := h.1
 by_cases h0 : i = 0
 ·subst h0
  go_enter Tryz.func82, Tryz.ntmps82
  go_wp2
  go_ret
  exact ⟨rfl, Below.refl _ _⟩
 ·obtain ⟨k, rfl⟩ : ∃ k, i = k + 1 := ⟨i - 1, by omega⟩
  obtain ⟨b, o, rfl, hb, hcell⟩ := h.2 (by omega)
  obtain ⟨_, _, ⟨c1, _, _⟩, _⟩ := hcell (k + 1) hi
  obtain ⟨_, _, ⟨c2, _, _⟩, _⟩ := hcell k (by omega)
  obtain ⟨_, _, ⟨c3, _, _⟩, _⟩ := hcell 1 (by omega)
  obtain ⟨_, _, ⟨c4, _, _⟩, _⟩ := hcell 0 (by omega)
  rw [Nat.one_mul] at c3
  rw [Nat.zero_mul, Nat.add_zero] at c4
  have l1 := hv.lt (i := k) (j := k + 1) (by omega) (by omega)
  have l2 := hv.lt (i := 0) (j := 1) (by omega) (by omega)
  generalize (lv[k + 1]?.getD Lv0).1 = p1 at *
  generalize (lv[k]?.getD Lv0).1 = p2 at *
  generalize (lv[1]?.getD Lv0).1 = p3 at *
  generalize (lv[0]?.getD Lv0).1 = p4 at *
  have e1 : (p1 == p2) = false := by simp; unfold St.ltU at l1; split at l1 <;> omega
  have e2 : (decide (p2 < p1) == decide (p4 < p3)) = true := by
   unfold St.ltU at l1 l2
   split at l1
   ·rename_i hu; simp [hu] at l2; simp [l1, l2]
   ·rename_i hu; simp [hu] at l2
    have a : ¬ p2 < p1 := by omega
    have b : ¬ p4 < p3 := by omega
    simp [a, b]
  have ek : ((k + 1 : Nat) : Int) - 1 = (k : Int) := by omega
  have x0 : (((k + 1 : Nat) : Int) == 0) = false := by simp; omega
  have xw : IntKind.i64.wrap (((k + 1 : Nat) : Int) - 1) = (k : Int) := by rw [ek]; exact IntWalk.i64_in _ (by have := hv.len; omega)
  have xw2 : IntKind.i64.wrap ((k : Int) + 1 - 1) = (k : Int) := by rw [show (k : Int) + 1 - 1 = (k : Int) by omega]; exact IntWalk.i64_in _ (by have := hv.len; omega)
  have r1 : (0 : Int) ≤ (k : Int) := by omega
  have r2 : (k : Int) < (m : Int) := by omega
  have r3 : (k : Int) + 1 < (m : Int) := by omega
  have r4 : (1 : Int) < (m : Int) := by omega
  have r5 : (0 : Int) < (m : Int) := by omega
  have hk48 : k ≤ 48 := by have := hv.len; omega
  clear hcell h hv l1 l2 hl ek
  go_enter Tryz.func82, Tryz.ntmps82
  go_wp2_with fail
  go_quiet (fail)
  go_wp2_with fail
  have r1' : (0 : Int) ≤ (k : Int) := by omega
  have r2' : (k : Int) < (m : Int) := by omega
  have r3' : (k : Int) + 1 < (m : Int) := by omega
  have r6' : (0 : Int) ≤ (k : Int) + 1 := by omega
  have xw3 : IntKind.i64.wrap (k : Int) = (k : Int) := IntWalk.i64_in _ (by omega)
  have c3' : w.cell? ⟨b, o + 3, none⟩ = some (.int .i64 p3) := c3
  have c4' : w.cell? ⟨b, o, none⟩ = some (.int .i64 p4) := c4
  have r4' : (1 : Int) < (m : Int) := by omega
  have r5' : (0 : Int) < (m : Int) := by omega
  go_quiet (fail)
  go_wp2
  go_ret
  exact ⟨by simp, below_drewN (below_drewN (Below.refl _ _) _) _⟩

/-- The quantities of the first k levels. -/
def totI (lv : List St.Lv) : Int := sumI (lv.map (·.2.1))
theorem VL.qty {up : Bool} {n : Nat} {lv : List St.Lv} (h : VL up n lv) : ∀ x ∈ lv, 0 < x.2.1 ∧ x.2.1 ≤ 16000000 := fun x hx => by
 obtain ⟨h1, h2⟩ := h.sum x hx
 obtain ⟨h3, h4⟩ := h.parts x hx
 have h5 := sumI_bd _ h4
 have h6 := h.n16
 rw [h3] at h5
 omega
theorem tot_bd : ∀ (lv : List St.Lv), (∀ x ∈ lv, 0 < x.2.1 ∧ x.2.1 ≤ 16000000) → 0 ≤ totI lv ∧ totI lv ≤ 16000000 * (lv.length : Int)
 | [], _ => by simp [totI, sumI]
 | x :: lv, h => by
  have h1 := h x (List.mem_cons_self ..)
  have h2 := tot_bd lv fun y hy => h y (List.mem_cons_of_mem _ hy)
  unfold totI at *
  rw [List.map_cons, sumI, List.length_cons]
  omega
theorem tot_snoc {lv : List St.Lv} {k : Nat} (hk : k < lv.length) : totI (lv.take (k + 1)) = totI (lv.take k) + (lv[k]?.getD Lv0).2.1 := by
 have e : lv.take (k + 1) = lv.take k ++ [lv[k]?.getD Lv0] := by rw [List.take_add_one, List.getElem?_eq_getElem hk]; rfl
 unfold totI
 rw [e, List.map_append]
 exact sumI_snoc _ _

set_option maxRecDepth 100000 in
set_option maxHeartbeats 8000000 in
theorem check_ok (up : Bool) (A : Option Addr) (m n c : Nat) (lv : List St.Lv) (w : World) (h : LvAt w A m n lv) (hv : VL up n lv) :
  Calls Tryz.prog 27 #[.slice A m c] w fun e w' => e = .returned (.int .i64 0) ∧ Below w.heap.size w w' := by
 have hl := h.1
 have hm : m ≤ 48 := by have := hv.len; omega
 have hn16 := hv.n16
 have d1 : decide ((48 : Int) < (m : Int)) = false := by simp; omega
 have HL := Lib.hid h
 have HV := Lib.hid hv
 have HLN := Lib.hid hl
 clear h hv hl
 go_enter Tryz.func27, Tryz.ntmps27
 go_wp2_with fail
 go_loopw [13] (fun t wr => ∃ k : Nat, k ≤ m ∧ t = .int .i64 k ∧ Hid (Below w.heap.size w wr)) (fun t _ => m - (intOf t).toNat)
 case atStart => exact ⟨0, Nat.zero_le _, rfl, Below.refl _ _⟩
 case round =>
  obtain ⟨k, hk, rfl, hB⟩ := hrel
  by_cases hlt : k < m
  ·obtain ⟨b, o, rfl, hb, hcell⟩ := HL.out.2 (by omega)
   obtain ⟨A', c', ⟨y0, y1, y2⟩, hp⟩ := hcell k hlt
   obtain ⟨A0, c0, ⟨-, -, z2⟩, -⟩ := hcell 0 (by omega)
   rw [Nat.zero_mul, Nat.add_zero] at z2
   have hmem := getD_mem (d := Lv0) (show k < lv.length by rw [HLN.out]; exact hlt)
   have v1 := HV.out.price _ hmem
   have v2 := HV.out.parts _ hmem
   have v3 := HV.out.sum _ hmem
   have v4 := HV.out.n0 (by have := HLN.out; omega)
   have HMV := Lib.hid (fun W (hW : Below w.heap.size w W) => moves_ok up (some ⟨b, o, none⟩) m n c k lv W (HL.out.below hW) HV.out hlt)
   generalize (lv[k]?.getD Lv0).1 = p at *
   generalize (lv[k]?.getD Lv0).2.1 = q at *
   generalize (lv[k]?.getD Lv0).2.2 = xs at *
   replace y0 := (hB.out.cell (p := ⟨b, o + k * 3, none⟩) hb).trans y0
   replace y1 := (hB.out.cell (p := ⟨b, o + k * 3 + 1, none⟩) hb).trans y1
   replace y2 := (hB.out.cell (p := ⟨b, o + k * 3 + 2, none⟩) hb).trans y2
   have hki1 : (0 : Int) ≤ (k : Int) := by omega
   have hki2 : (k : Int) < (m : Int) := by omega
   have hbx := Blk.new wr 64 #[.int .i64 p, .int .i64 q, .slice A' n c']
   have hb1 : Below w.heap.size w (wr.alloc (.cells #[.int .i64 p, .int .i64 q, .slice A' n c'] 64)) := hB.out.trans (((Below.refl _ _).alloc (Nat.le_refl _) _ : Below wr.heap.size wr (wr.alloc (.cells #[.int .i64 p, .int .i64 q, .slice A' n c'] 64))).mono hB.out.size)
   have HIR := Lib.hid (inRange_ok p q A' n c' xs (wr.alloc (.cells #[.int .i64 p, .int .i64 q, .slice A' n c'] 64)) (hp.below hb1) v1.1 v1.2 v4 hn16 v2.2)
   have HPT := Lib.hid hp
   have V2 := Lib.hid v2
   have V3 := Lib.hid v3
   clear hcell hp v1 v2 v3
   go_wp2_with fail
   generalize wr.alloc (.cells #[.int .i64 p, .int .i64 q, .slice A' n c'] 64) = W at *
   generalize wr.heap.size = g9 at *
   obtain ⟨b0, b1, b2⟩ := hbx.three
   refine HIR.out.mono ?_
   rintro e w1 ⟨rfl, hb2⟩
   have hbx1 := hbx.below hb2 hbx.lt
   have hB1 := hb1.trans (hb2.mono hb1.size)
   clear b0 b1 b2 hbx hb1 hb2 HIR y0 y1 y2
   obtain ⟨b0, b1, b2⟩ := hbx1.three
   have HBX := Lib.hid hbx1
   have HB1 := Lib.hid hB1
   have hg1 := hbx1.lt
   clear hbx1
   go_wp2_with fail
   go_loopw [5, 24] (fun t5 t wx => ∃ i : Nat, i ≤ n ∧ t = .int .i64 i ∧ t5 = .int .i64 (sumI (xs.take i)) ∧ Hid (wx = w1)) (fun _ t _ => n - (intOf t).toNat)
   case atStart => exact ⟨0, Nat.zero_le _, rfl, rfl, by first | exact Lib.hid rfl | exact Lib.hid trivial⟩
   case round =>
    obtain ⟨i, hi, rfl, rfl, hW⟩ := hrel
    obtain rfl := hW.out
    by_cases hin : i < n
    ·obtain ⟨b5, o5, rfl, hb5, hc5⟩ := HPT.out.2 (by omega)
     have hx := (HB1.out.cell (p := ⟨b5, o5 + i, none⟩) hb5).trans (hc5 i hin)
     have hs := take_int (xs := xs) (k := i) (by rw [V2.out.1]; exact hin)
     have hbd1 := sumI_bd (xs.take i) fun y hy => V2.out.2 y (List.mem_of_mem_take hy)
     have hbd2 := V2.out.2 _ (getD_mem (d := 0) (show i < xs.length by rw [V2.out.1]; exact hin))
     have hl2 := List.length_take_le i xs
     have hs2 : sumI (xs.take (i + 1)) = sumI (xs.take i) + xs[i]?.getD 0 := by rw [hs, sumI_snoc]
     generalize xs[i]?.getD 0 = x at *
     generalize hsi : sumI (xs.take i) = s at *
     have xw : IntKind.i64.wrap (s + x) = s + x := IntWalk.i64_in _ (by omega)
     have i1 : (0 : Int) ≤ (i : Int) := by omega
     have i2 : (i : Int) < (n : Int) := by omega
     have HS2 := Lib.hid hs2
     clear hs hs2 hbd1 hbd2 hl2 hc5 hsi
     go_wp2
     go_roundw
     case rel => exact ⟨i + 1, by omega, by go_num, by rw [HS2.out], by first | exact Lib.hid rfl | exact Lib.hid trivial⟩
     case measure => simp [intOf]; omega
    ·obtain rfl : i = n := by omega
     rw [List.take_of_length_le (by rw [V2.out.1]; exact Nat.le_refl _), ← V3.out.1]
     have n1 : ((i : Int) != (i : Int)) = false := by simp
     have n2 : (q != q) = false := by simp
     have n3 : (q == 0) = false := by simpa using V3.out.2
     have hbr : b < wr.heap.size := Nat.lt_of_lt_of_le hb HB1.out.size
     have u0 := fun s : KW wr => (Below.cell s.h (p := ⟨g9, 0, none⟩) hg1).trans b0
     have u1 := fun s : KW wr => (Below.cell s.h (p := ⟨g9, 1, none⟩) hg1).trans b1
     have u2 := fun s : KW wr => (Below.cell s.h (p := ⟨g9, 2, none⟩) hg1).trans b2
     have u3 := fun s : KW wr => (Below.cell s.h (p := ⟨b, o + 2, none⟩) hbr).trans ((HB1.out.cell (p := ⟨b, o + 2, none⟩) hb).trans z2)
     have m0 : (0 : Int) < (m : Int) := by omega
     go_wp2_with fail
     try simp only [List.append_eq, List.cons_append, List.nil_append]
     refine wp_region_kw (W := wr) (by kernel_rfl) (by kernel_rfl) ?_
     repeat (go_big_quiet_step ((go_at_call 82; exact kw_call (HMV.out _ (HB1.out.trans (Below.mono (KW.h _) HB1.out.size))))))
     refine wpQuiet_nil ?_
     intro v1 hw1
     have hv1 : Kp wr v1 := by obtain ⟨s, rfl⟩ := hw1; exact s.h
     have HV1 := Lib.hid (HB1.out.trans (Below.mono hv1 HB1.out.size))
     clear hw1 hv1 u0 u1 u2 u3 HMV b0 b1 b2
     go_wp2
     go_roundw
     case rel => exact ⟨k + 1, by omega, by go_num, HV1.out⟩
     case measure => simp [intOf]; omega
  ·obtain rfl : k = m := by omega
   go_wp2
   go_ret
   exact ⟨rfl, hB.out⟩

set_option maxRecDepth 100000 in
set_option maxHeartbeats 8000000 in
theorem total_ok (up : Bool) (A : Option Addr) (m n c : Nat) (lv : List St.Lv) (w : World) (h : LvAt w A m n lv) (hv : VL up n lv) :
  Calls Tryz.prog 29 #[.slice A m c] w fun e w' => e = .returned (.int .i64 (totI lv)) ∧ Below w.heap.size w w' := by
 have hl := h.1
 have hm : m ≤ 48 := by have := hv.len; omega
 have HCK := Lib.hid (check_ok up A m n c lv w h hv)
 have HL := Lib.hid h
 have HLN := Lib.hid hl
 have HQ := Lib.hid hv.qty
 clear h hv hl
 go_enter Tryz.func29, Tryz.ntmps29
 go_wp2_with fail
 refine HCK.out.mono ?_
 rintro e w0 ⟨rfl, hb0⟩
 have HB0 := Lib.hid hb0
 clear hb0 HCK
 go_wp2_with fail
 go_loopw [3, 11] (fun t3 t wr => ∃ k : Nat, k ≤ m ∧ t = .int .i64 k ∧ t3 = .int .i64 (totI (lv.take k)) ∧ Hid (Below w.heap.size w wr)) (fun _ t _ => m - (intOf t).toNat)
 case atStart => exact ⟨0, Nat.zero_le _, rfl, rfl, HB0.out⟩
 case round =>
  obtain ⟨k, hk, rfl, rfl, hB⟩ := hrel
  by_cases hlt : k < m
  ·obtain ⟨b, o, rfl, hb, hcell⟩ := HL.out.2 (by omega)
   obtain ⟨A', c', ⟨y0, y1, y2⟩, -⟩ := hcell k hlt
   have hsn := tot_snoc (lv := lv) (k := k) (by rw [HLN.out]; exact hlt)
   have hq := HQ.out _ (getD_mem (d := Lv0) (show k < lv.length by rw [HLN.out]; exact hlt))
   have hbd := tot_bd (lv.take k) fun x hx => HQ.out x (List.mem_of_mem_take hx)
   have hl2 := List.length_take_le k lv
   generalize (lv[k]?.getD Lv0).1 = p at *
   generalize (lv[k]?.getD Lv0).2.1 = q at *
   generalize hts : totI (lv.take k) = s at *
   replace y0 := (hB.out.cell (p := ⟨b, o + k * 3, none⟩) hb).trans y0
   replace y1 := (hB.out.cell (p := ⟨b, o + k * 3 + 1, none⟩) hb).trans y1
   replace y2 := (hB.out.cell (p := ⟨b, o + k * 3 + 2, none⟩) hb).trans y2
   have xw : IntKind.i64.wrap (s + q) = s + q := IntWalk.i64_in _ (by omega)
   have hki1 : (0 : Int) ≤ (k : Int) := by omega
   have hki2 : (k : Int) < (m : Int) := by omega
   have HSN := Lib.hid hsn
   have HB1 := Lib.hid (hB.out.trans (((Below.refl _ _).alloc (Nat.le_refl _) _ : Below wr.heap.size wr (wr.alloc (.cells #[.int .i64 p, .int .i64 q, .slice A' n c'] 64))).mono hB.out.size))
   clear hcell hsn hq hbd hl2 hts
   go_wp2
   go_roundw
   case rel => exact ⟨k + 1, by omega, by go_num, by rw [HSN.out], HB1.out⟩
   case measure => simp [intOf]; omega
  ·obtain rfl : k = m := by omega
   rw [List.take_of_length_le (by rw [HLN.out]; exact Nat.le_refl _)]
   go_wp2
   go_ret
   exact ⟨rfl, hB.out⟩

end Go.Proofs.YtjajigkacccdgaaGreat

namespace Go.Proofs.YtjajigkacccdgaaGreat
set_option linter.unusedVariables false
set_option linter.unusedSimpArgs false
open Go.RowKit
open Go.Sort (HoldsK)
open Wd

theorem flw_ltU {up : Bool} {v p : Int} (h : flw up v p = true) : St.ltU up v p := by
 unfold flw at h
 unfold St.ltU
 cases up <;> simp at h ⊢ <;> exact h
theorem chkFrom_mono {up : Bool} : ∀ {l : List (Int × Int)} {v : Int}, chkFrom up (some v) l = 0 → (∀ t ∈ l, St.ltU up v t.2) ∧ (l.map (·.2)).Pairwise (St.ltU up)
 | [], v, _ => ⟨by simp, by simp⟩
 | (q, p) :: r, v, h => by
  rw [chkFrom] at h
  split at h
  ·simp at h
  ·split at h
   ·rename_i hf
    obtain ⟨i1, i2⟩ := chkFrom_mono h
    have h1 := flw_ltU hf
    refine ⟨fun t ht => ?_, ?_⟩
    ·rcases List.mem_cons.1 ht with rfl | ht
     ·exact h1
     ·have h2 := i1 t ht
      unfold St.ltU at *
      split <;> rename_i hu <;> simp [hu] at h1 h2 <;> omega
    ·rw [List.map_cons, List.pairwise_cons]
     refine ⟨fun x hx => ?_, i2⟩
     obtain ⟨t, ht, rfl⟩ := List.mem_map.1 hx
     exact i1 t ht
   ·simp at h
theorem chk_mono {up : Bool} {l : List (Int × Int)} (h : chk up l = 0) : (l.map (·.2)).Pairwise (St.ltU up) := by
 have h2 := (chk_ok h).2.2.1
 match l, h2 with
 | [], _ => simp
 | (q, p) :: r, h2 =>
  rw [chkFrom] at h2
  split at h2
  ·simp at h2
  ·obtain ⟨i1, i2⟩ := chkFrom_mono h2
   rw [List.map_cons, List.pairwise_cons]
   refine ⟨fun x hx => ?_, i2⟩
   obtain ⟨t, ht, rfl⟩ := List.mem_map.1 hx
   exact i1 t ht

namespace St
/-- The quantity of a curve at price p. -/
def atP (l : List (Int × Int)) (p : Int) : Int :=
 match l with
 | [] => 0
 | s :: r => (if s.2 = p then s.1 else 0) + atP r p
theorem atP_none : ∀ {l : List (Int × Int)} {p : Int}, (∀ s ∈ l, s.2 ≠ p) → atP l p = 0
 | [], _, _ => rfl
 | s :: r, p, h => by rw [atP, if_neg (h s (List.mem_cons_self ..)), atP_none fun t ht => h t (List.mem_cons_of_mem _ ht)]; rfl
theorem atP_bd {up : Bool} : ∀ {l : List (Int × Int)} {p : Int}, (l.map (·.2)).Pairwise (ltU up) → (∀ s ∈ l, 1 ≤ s.1 ∧ s.1 ≤ 1000000) → 0 ≤ atP l p ∧ atP l p ≤ 1000000
 | [], _, _, _ => by simp [atP]
 | s :: r, p, hm, hb => by
  rw [List.map_cons, List.pairwise_cons] at hm
  have h1 := hb s (List.mem_cons_self ..)
  have ih := atP_bd (p := p) hm.2 fun t ht => hb t (List.mem_cons_of_mem _ ht)
  rw [atP]
  split
  ·rename_i e
   rw [atP_none fun t ht e2 => ?_]
   ·omega
   ·have := hm.1 t.2 (List.mem_map.2 ⟨t, ht, rfl⟩)
    rw [e, e2] at this
    exact ltU_irr this
  ·omega
theorem part_map (k : Nat) : ∀ (l : List (Int × Int)) (p : Int) (i : Nat), part (l.map fun s => (k, s.1, s.2)) p i = if k = i then atP l p else 0
 | [], p, i => by simp [part, atP]
 | s :: r, p, i => by
  rw [List.map_cons, part, part_map k r p i, atP]
  by_cases h : k = i
  ·simp [h]
  ·simp [h]
theorem part_tri : ∀ (ls : List (List (Int × Int))) (k : Nat) (p : Int) (i : Nat), part (tri k ls) p i = if k ≤ i then atP (ls[i - k]?.getD []) p else 0
 | [], k, p, i => by simp [tri, part, atP]
 | l :: ls, k, p, i => by
  rw [tri, part_app, part_map, part_tri ls (k + 1) p i]
  by_cases h : k = i
  ·subst h
   rw [if_pos rfl, if_neg (by omega), if_pos (Nat.le_refl _), Nat.sub_self]
   simp
  ·by_cases h2 : k ≤ i
   ·rw [if_neg h, if_pos (by omega), if_pos h2, show i - k = (i - (k + 1)) + 1 by omega, List.getElem?_cons_succ]
    omega
   ·rw [if_neg h, if_neg (by omega), if_neg h2]
    rfl
theorem qty_map (k : Nat) : ∀ (l : List (Int × Int)) (p : Int), qty (l.map fun s => (k, s.1, s.2)) p = atP l p
 | [], p => rfl
 | s :: r, p => by rw [List.map_cons, qty, qty_map k r p, atP]
theorem qty_tri : ∀ (ls : List (List (Int × Int))) (k : Nat) (p : Int), qty (tri k ls) p = sumI (ls.map fun l => atP l p)
 | [], _, _ => rfl
 | l :: ls, k, p => by rw [tri, qty_app, qty_map, qty_tri ls (k + 1) p, List.map_cons, sumI]
theorem parts_tri (ls : List (List (Int × Int))) (p : Int) : parts ls.length (tri 0 ls) p = ls.map fun l => atP l p := by
 refine ext_getD (by simp [parts]) fun i hi => ?_
 have hi' : i < ls.length := by simpa [parts] using hi
 rw [parts_get hi', part_tri, if_pos (Nat.zero_le _), Nat.sub_zero, List.getElem?_map, List.getElem?_eq_getElem hi']
 rfl
theorem qty_pos : ∀ {T : List Tr} {p : Int}, (∀ t ∈ T, 1 ≤ t.2.1) → (∃ t ∈ T, t.2.2 = p) → 1 ≤ qty T p
 | [], _, _, ⟨t, ht, _⟩ => by simp at ht
 | x :: T, p, h, ⟨t, ht, e⟩ => by
  have h1 := h x (List.mem_cons_self ..)
  have h0 : ∀ (S : List Tr), (∀ t ∈ S, 1 ≤ t.2.1) → 0 ≤ qty S p := by
   intro S
   induction S with
   | nil => intro _; simp [qty]
   | cons a S ih =>
    intro hS
    have a1 := hS a (List.mem_cons_self ..)
    have a2 := ih fun t ht => hS t (List.mem_cons_of_mem _ ht)
    rw [qty]
    split <;> omega
  rw [qty]
  rcases List.mem_cons.1 ht with rfl | ht
  ·rw [if_pos e]
   have := h0 T fun t ht => h t (List.mem_cons_of_mem _ ht)
   omega
  ·have := qty_pos (fun t ht => h t (List.mem_cons_of_mem _ ht)) ⟨t, ht, e⟩
   split <;> omega
end St

/-- The levels of the prices in D. -/
def lvOf (n : Nat) (T : List St.Tr) (D : List (Int × Nat)) : List St.Lv := D.map fun d => (d.1, St.qty T d.1, St.parts n T d.1)
theorem lvOf_is {up : Bool} {n : Nat} {T : List St.Tr} {D : List (Int × Nat)} (h1 : (D.map (·.1)).Pairwise (St.ltU up)) (h2 : (D.map (·.1)).Perm (St.pr T)) : St.IsLv up n T (lvOf n T D) := by
 have e : (lvOf n T D).map (·.1) = D.map (·.1) := by unfold lvOf; rw [List.map_map]; rfl
 refine ⟨by rw [e]; exact h1, fun p => ?_, fun x hx => ?_⟩
 ·rw [e, h2.mem_iff, St.mem_pr]
 ·obtain ⟨d, _, rfl⟩ := List.mem_map.1 hx
  exact ⟨rfl, rfl⟩
theorem lv_valid {up : Bool} {ls : List (List (Int × Int))} {lv : List St.Lv} (hc : (ckC up ls).2 = 0) (h : St.IsLv up ls.length (St.tri 0 ls) lv) : VL up ls.length lv := by
 obtain ⟨hn, hk, hg⟩ := ckC_good hc
 obtain ⟨h1, h2, h3⟩ := h
 have hb : ∀ l ∈ ls, ∀ s ∈ l, 1 ≤ s.1 ∧ s.1 ≤ 1000000 := fun l hl s hs => by
  have := (hg l hl).2 s hs
  unfold Bad at this
  omega
 have hpt : ∀ p, ∀ y ∈ ls.map (fun l => St.atP l p), 0 ≤ y ∧ y ≤ 1000000 := fun p y hy => by
  obtain ⟨l, hl, rfl⟩ := List.mem_map.1 hy
  exact St.atP_bd (chk_mono (hk l hl)) (hb l hl)
 have hex : ∀ x ∈ lv, ∃ t ∈ St.tri 0 ls, t.2.2 = x.1 := fun x hx => (h2 x.1).1 (List.mem_map.2 ⟨x, hx, rfl⟩)
 have hlen : lv.length ≤ 48 := by
  have hnd : (lv.map (·.1)).Nodup := h1.imp fun {a b} hab e => by subst e; exact St.ltU_irr hab
  have hsub := hnd.length_le_of_subset (l₂ := St.pr (St.tri 0 ls)) fun p hp => St.mem_pr.2 ((h2 p).1 hp)
  have a1 := St.pr_len (St.tri 0 ls)
  have a2 := St.tri_len ls 0 fun l hl => (hg l hl).1
  rw [List.length_map] at hsub
  omega
 refine ⟨hlen, fun h0 => ?_, hn, fun x hx => ?_, fun x hx => ?_, fun x hx => ?_, h1⟩
 ·cases lv with
  | nil => simp at h0
  | cons x lv =>
   obtain ⟨t, ht, _⟩ := hex x (List.mem_cons_self ..)
   obtain ⟨l, hl, _⟩ := St.tri_mem ht
   cases ls with
   | nil => simp at hl
   | cons _ _ => simp
 ·obtain ⟨t, ht, e⟩ := hex x hx
  obtain ⟨l, hl, hs, _⟩ := St.tri_mem ht
  have := (hg l hl).2 _ hs
  unfold Bad at this
  rw [← e]
  simp only at this
  omega
 ·rw [(h3 x hx).2, St.parts_tri]
  exact ⟨by simp, hpt x.1⟩
 ·rw [(h3 x hx).1, (h3 x hx).2, St.parts_tri, ← St.qty_tri ls 0 x.1]
  refine ⟨rfl, ?_⟩
  have := St.qty_pos (T := St.tri 0 ls) (p := x.1) (fun t ht => by
   obtain ⟨l, hl, hs, _⟩ := St.tri_mem ht
   exact (hb l hl _ hs).1) (hex x hx)
  omega
theorem LvO.at {base n : Nat} {w : World} {mg : Nat} {T : List St.Tr} {D : List (Int × Nat)} (h : LvO base n w mg T D) : LvAt w (some ⟨mg, 0, none⟩) D.length n (lvOf n T D) := by
 obtain ⟨h1, h2, h3, h4, h5⟩ := h
 refine ⟨by simp [lvOf], fun _ => ⟨mg, 0, rfl, h2, fun j hj => ?_⟩⟩
 have hd : D[j]?.getD (0, 0) ∈ D := getD_mem hj
 have eg : D.toArray[j]! = D[j]?.getD (0, 0) := by simp [hj, List.getElem?_eq_getElem hj]
 have el : (lvOf n T D)[j]?.getD Lv0 = ((D[j]?.getD (0, 0)).1, St.qty T (D[j]?.getD (0, 0)).1, St.parts n T (D[j]?.getD (0, 0)).1) := by
  unfold lvOf
  rw [List.getElem?_map, List.getElem?_eq_getElem hj]
  rfl
 have c0 := (h3.cell (i := j) (c := 0) (by simpa using hj) (by omega)).1
 have c1 := (h3.cell (i := j) (c := 1) (by simpa using hj) (by omega)).1
 have c2 := (h3.cell (i := j) (c := 2) (by simpa using hj) (by omega)).1
 rw [eg, Nat.zero_add] at c0 c1 c2
 rw [el, Nat.zero_add]
 exact ⟨_, _, ⟨c0, c1, c2⟩, (h4 _ hd).2.2.at (St.parts_len _ _ _)⟩

end Go.Proofs.YtjajigkacccdgaaGreat
