/-
The reference of layer 1 at numbers of any size: small, back, mul. The reference of layer 1 at numbers of any size: mul. No statement of the seat is proved here; no conditions beyond those of each theorem.
-/
import Derived.Test.YtodkhjihkkmplaaGreatLRa4
namespace Go.Proofs.YtodkhjihkkmplaaGreat
set_option linter.unusedVariables false
set_option linter.unusedSimpArgs false
open Go.RowKit
open Wd

/-- What stands from the place k on. -/
def tp (a k : Nat) : Nat := a / 65536 ^ k
theorem tp_step (a j : Nat) : tp a j = tp a (j + 1) * 65536 + dg a j := by
 have := div_step a j
 unfold tp dg
 omega
theorem tp_top {a n : Nat} (h : a < 65536 ^ n) : tp a n = 0 := Nat.div_eq_of_lt h
theorem tp_zero (a : Nat) : tp a 0 = a := by unfold tp; rw [Nat.pow_zero, Nat.div_one]
theorem tp_le (a k : Nat) : tp a k ≤ a := Nat.div_le_self _ _
theorem RA.cells {w : World} {A : Option Addr} {n c v : Nat} (h : RA w A n c v) (hn : n ≠ 0) : ∃ b o, A = some ⟨b, o, none⟩ ∧ b < w.heap.size ∧ ∀ j, j < n → w.cell? ⟨b, o + j, none⟩ = some (.int .i64 ((dg v j : Nat) : Int)) := by
 obtain ⟨hs, h1, h2, h3, h4⟩ := h
 obtain ⟨b, o, e, hb, hc⟩ := h1.2 hn
 refine ⟨b, o, e, hb, fun j hj => ?_⟩
 rw [hc j hj, vh_get h2, h3]
 rfl
set_option maxRecDepth 100000 in
set_option maxHeartbeats 1000000 in
theorem small_ra (A : Option Addr) (n c a : Nat) (w : World) (h : RA w A n c a) (hn : n ≤ 3) :
  Calls Tryz.prog 156 #[.slice A n c] w fun e w' => e = .returned (.int .i64 (a : Int)) ∧ w' = w := by
 have HX := Lib.hid h
 have ha : a < 281474976710656 := Nat.lt_of_lt_of_le h.lt (Nat.pow_le_pow_right (by decide) hn)
 clear h
 go_enter Tryz.func156, Tryz.ntmps156
 go_wp2_with fail
 go_loopw [3, 4] (fun t3 t4 wr => ∃ k : Nat, k ≤ n ∧ t4 = .int .i64 ((k : Int) - 1) ∧ t3 = .int .i64 ((tp a k : Nat) : Int) ∧ Hid (wr = w)) (fun _ t4 _ => (intOf t4 + 1).toNat)
 case atStart => exact ⟨n, Nat.le_refl _, by first | rfl | go_num, by rw [tp_top HX.out.lt]; rfl, by first | exact Lib.hid rfl | exact Lib.hid trivial⟩
 case round =>
  obtain ⟨k, hk, rfl, rfl, hW⟩ := hrel
  obtain rfl := hW.out
  by_cases h0 : k = 0
  ·subst h0
   rw [tp_zero]
   go_wp2
   go_ret
   exact ⟨rfl, rfl⟩
  ·obtain ⟨j, rfl⟩ : ∃ j, k = j + 1 := ⟨k - 1, by omega⟩
   obtain ⟨b, o, rfl, hb, hc⟩ := HX.out.cells (by omega)
   have cj := hc j (by omega)
   have hs := tp_step a j
   have l1 := dg_lt a j
   have l2 := tp_le a j
   have ej : (((j + 1 : Nat) : Int) - 1) = (j : Int) := by omega
   simp only [ej]
   generalize tp a (j + 1) = x at *
   generalize dg a j = y at *
   generalize hz : tp a j = z at *
   have HZ := Lib.hid hz
   clear hz
   obtain ⟨p, hp⟩ : ∃ p : Nat, p = x * 65536 := ⟨_, rfl⟩
   have e1 : IntKind.i64.wrap ((x : Int) * 65536) = (p : Int) := by rw [hp]; exact IntWalk.i64_in _ (by omega)
   have f1 : wrap64 ((x : Int) * 65536) = (p : Int) := by rw [w64_in _ (by omega)]; omega
   have e2 : IntKind.i64.wrap ((p : Int) + (y : Int)) = (z : Int) := by rw [IntWalk.i64_in _ (by omega)]; omega
   have f2 : wrap64 ((p : Int) + (y : Int)) = (z : Int) := by rw [w64_in _ (by omega)]; omega
   have j1 : (0 : Int) ≤ (j : Int) := by omega
   have j2 : (j : Int) < (n : Int) := by omega
   clear hc hs hp
   go_wp2
   go_roundw
   case rel => exact ⟨j, by omega, by first | rfl | go_num, by rw [HZ.out], by first | exact Lib.hid rfl | exact Lib.hid trivial⟩
   case measure => simp [intOf]

theorem w_of {z : Int} {k : Nat} (hz : z = k) (hk : k ≤ 281474976710656) : IntKind.i64.wrap z = (k : Int) ∧ wrap64 z = (k : Int) := by
 subst hz
 exact ⟨IntWalk.i64_in _ (by omega), w64_in _ (by omega)⟩
theorem lit3 (w : World) (r0 r1 r2 : Int) : IsAt (w.alloc (.cells #[.int .i64 r0, .int .i64 r1, .int .i64 r2] 3)) (some ⟨w.heap.size, 0, none⟩) 3 [r0, r1, r2] := by
 have hB := Blk.new w 3 #[.int .i64 r0, .int .i64 r1, .int .i64 r2]
 refine ⟨rfl, fun _ => ⟨w.heap.size, 0, rfl, hB.lt, fun j hj => ?_⟩⟩
 rw [Nat.zero_add, hB.cell]
 obtain rfl | rfl | rfl : j = 0 ∨ j = 1 ∨ j = 2 := by omega
 all_goals rfl
theorem wr_nat {x : Nat} (h : x ≤ 281474976710656) : IntKind.i64.wrap (x : Int) = (x : Int) ∧ wrap64 (x : Int) = (x : Int) := ⟨IntWalk.i64_in _ (by omega), w64_in _ (by omega)⟩
set_option maxRecDepth 100000 in
set_option maxHeartbeats 1000000 in
theorem back_ra (v : Nat) (w : World) (hv : v < 281474976710656) :
  Calls Tryz.prog 155 #[.int .i64 (v : Int)] w (RetH w v) := by
 have hq : v / 65536 < 4294967296 := by omega
 have e1 := tmod_dg v
 have e2 := tdiv_dg v
 have e1' : (v : Int) % 65536 = ((v % 65536 : Nat) : Int) := by simp
 have e2' : (v : Int) / 65536 = ((v / 65536 : Nat) : Int) := by simp
 have hR : vh [((v % 65536 : Nat) : Int), ((v / 65536 % 65536 : Nat) : Int), ((v / 65536 / 65536 : Nat) : Int)] = v ∧ Dg [((v % 65536 : Nat) : Int), ((v / 65536 % 65536 : Nat) : Int), ((v / 65536 / 65536 : Nat) : Int)] :=
  ⟨by simp only [vh, Int.toNat_natCast]; omega, Dg.cons (by omega) (by omega) (Dg.cons (by omega) (by omega) (Dg.cons (by omega) (by omega) Dg.nil))⟩
 have e3 := tmod_dg (v / 65536)
 have e4 := tdiv_dg (v / 65536)
 have e3' : ((v / 65536 : Nat) : Int) % 65536 = ((v / 65536 % 65536 : Nat) : Int) := by simp
 have e4' : ((v / 65536 : Nat) : Int) / 65536 = ((v / 65536 / 65536 : Nat) : Int) := by simp
 obtain ⟨w1, u1⟩ := wr_nat (Nat.le_trans (Nat.mod_le v 65536) (Nat.le_of_lt hv))
 obtain ⟨w2, u2⟩ := wr_nat (Nat.le_trans (Nat.div_le_self v 65536) (Nat.le_of_lt hv))
 obtain ⟨w3, u3⟩ := wr_nat (Nat.le_trans (Nat.mod_le (v / 65536) 65536) (Nat.le_trans (Nat.div_le_self v 65536) (Nat.le_of_lt hv)))
 obtain ⟨w4, u4⟩ := wr_nat (Nat.le_trans (Nat.div_le_self (v / 65536) 65536) (Nat.le_trans (Nat.div_le_self v 65536) (Nat.le_of_lt hv)))
 generalize v % 65536 = r0 at *
 generalize v / 65536 % 65536 = r1 at *
 generalize v / 65536 / 65536 = r2 at *
 generalize v / 65536 = q1 at *
 have hI : RA (w.alloc (.cells #[.int .i64 (r0 : Int), .int .i64 (r1 : Int), .int .i64 (r2 : Int)] 3)) (some ⟨w.heap.size, 0, none⟩) 3 3 v := ⟨[(r0 : Int), (r1 : Int), (r2 : Int)], lit3 w _ _ _, hR.2, hR.1, Nat.le_refl _⟩
 have T := Lib.hid (trim_ra (some ⟨w.heap.size, 0, none⟩) 3 3 v _ hI (by omega))
 have HB := Lib.hid ((Below.refl w.heap.size w).alloc (Nat.le_refl _) (.cells #[.int .i64 (r0 : Int), .int .i64 (r1 : Int), .int .i64 (r2 : Int)] 3))
 have hv1 : (0 : Int) ≤ (v : Int) := Int.natCast_nonneg _
 have hq1 : (0 : Int) ≤ (q1 : Int) := Int.natCast_nonneg _
 clear hI hR hv hq
 go_enter Tryz.func155, Tryz.ntmps155
 go_wp2_with fail
 refine T.out.mono ?_
 rintro e w1 ⟨A1, n1, rfl, hI1, rfl⟩
 have HI := Lib.hid hI1
 clear hI1
 go_wp2
 go_ret
 exact ⟨A1, n1, 3, rfl, HI.out, HB.out⟩

end Go.Proofs.YtodkhjihkkmplaaGreat

namespace Go.Proofs.YtodkhjihkkmplaaGreat
set_option linter.unusedVariables false
set_option linter.unusedSimpArgs false
open Go.RowKit
open Wd

theorem Own.lit {base : Nat} (w : World) (x : Int) (e : TypeId) (hb : base ≤ w.heap.size) : Own base e 1 (w.alloc (.cells #[.int .i64 x] e)) (some ⟨w.heap.size, 0, none⟩) 1 1 [.int .i64 x] :=
 ⟨rfl, Or.inr ⟨w.heap.size, 1, #[.int .i64 x], rfl, hb, heap_alloc_new w _, Nat.le_refl _, by decide, rfl, rfl⟩⟩
theorem RA.srcOf {w : World} {A : Option Addr} {n c v : Nat} (h : RA w A n c v) : ∃ hs, SrcAt w A n 1 (hs.map (Value.int .i64)) ∧ Dg hs ∧ vh hs = v ∧ hs.length = n := by
 obtain ⟨hs, h1, h2, h3, h4⟩ := h
 exact ⟨hs, h1.src, h2, h3, h1.1⟩
/-- A digit set ahead. -/
theorem Own.front {base : Nat} {e : TypeId} {w : World} {A : Option Addr} {n c x v : Nat} {hs : List Int} (h : Own base e 1 w A (1 + n) c ([.int .i64 (x : Int)] ++ hs.map (Value.int .i64))) (hd : Dg hs) (hv : vh hs = v) (hx : x < 65536) : RA w A (1 + n) c (x + 65536 * v) := by
 have h2 : Own base e 1 w A (1 + n) c (((x : Int) :: hs).map (Value.int .i64)) := h
 have := h2.ra (Dg.cons (by omega) (by omega) hd)
 rwa [vh_cons, Int.toNat_natCast, hv] at this
/-- The value within the inner loop. -/
def mv (a b j s : Nat) : Nat := 65536 * (tp a (j + 1) * b) + min (1024 * s) (dg a j) * b
theorem mv_zero (a b j : Nat) : mv a b j 0 = 0 + 65536 * (tp a (j + 1) * b) := by unfold mv; simp
theorem mv_step (a b j s N : Nat) (h : min (1024 * (s + 1)) (dg a j) = min (1024 * s) (dg a j) + N) : mv a b j s + b * N = mv a b j (s + 1) := by
 unfold mv
 rw [h, Nat.add_mul, Nat.mul_comm b N, Nat.add_assoc]
theorem mv_done (a b j s : Nat) (h : dg a j ≤ 1024 * s) : mv a b j s = tp a j * b := by
 unfold mv
 rw [Nat.min_eq_right h]
 have := mul_step a b j
 unfold tp
 omega
theorem mv_lt {a b n m j : Nat} (s : Nat) (ha : a < 65536 ^ n) (hb : b < 65536 ^ m) : mv a b j s < 65536 ^ (n + m) := by
 have h1 : mv a b j s ≤ tp a j * b := by
  rw [tp_step a j, Nat.add_mul]
  unfold mv
  have := Nat.mul_le_mul_right b (Nat.min_le_right (1024 * s) (dg a j))
  rw [Nat.mul_assoc, Nat.mul_left_comm] 
  omega
 have h2 : tp a j * b ≤ a * b := Nat.mul_le_mul_right _ (tp_le a j)
 have h3 : a * b < 65536 ^ n * 65536 ^ m := Nat.mul_lt_mul'' ha hb
 rw [Nat.pow_add]
 omega

set_option maxRecDepth 100000 in
set_option maxHeartbeats 4000000 in
theorem mul_ra (A B : Option Addr) (n c m d a b : Nat) (w : World) (h : RA w A n c a) (h' : RA w B m d b) (hn : n ≤ 6000000000) (hm : m ≤ 6000000000) :
  Calls Tryz.prog 126 #[.slice A n c, .slice B m d] w (RetH w (a * b)) := by
 by_cases hs : n + m ≤ 3
 ·have S1 := Lib.hid (small_ra A n c a w h (by omega))
  have S2 := Lib.hid (small_ra B m d b w h' (by omega))
  have hab : a * b < 281474976710656 := by
   have h1 := h.lt
   have h2 := h'.lt
   have h3 : a * b < 65536 ^ n * 65536 ^ m := Nat.mul_lt_mul'' h1 h2
   rw [← Nat.pow_add] at h3
   exact Nat.lt_of_lt_of_le h3 (Nat.pow_le_pow_right (by decide) hs)
  have T := Lib.hid (back_ra (a * b) w hab)
  have e1 : IntKind.i64.wrap ((a : Int) * (b : Int)) = ((a * b : Nat) : Int) := by rw [← Int.natCast_mul]; exact (wr_nat (Nat.le_of_lt hab)).1
  have f1 : wrap64 ((a : Int) * (b : Int)) = ((a * b : Nat) : Int) := by rw [← Int.natCast_mul]; exact (wr_nat (Nat.le_of_lt hab)).2
  have e2 : IntKind.i64.wrap ((n : Int) + (m : Int)) = ((n + m : Nat) : Int) := IntWalk.i64_in _ (by omega)
  have f2 : wrap64 ((n : Int) + (m : Int)) = ((n + m : Nat) : Int) := by rw [w64_in _ (by omega)]; omega
  have d1 : decide (((n + m : Nat) : Int) ≤ 3) = true := decide_eq_true (by omega)
  have d2 : decide (n + m ≤ 3) = true := decide_eq_true hs
  generalize a * b = p at *
  generalize ((n + m : Nat) : Int) = q at *
  clear h h' hab
  go_enter Tryz.func126, Tryz.ntmps126
  go_wp2_with fail
  refine S1.out.mono ?_
  rintro e w1 ⟨rfl, rfl⟩
  go_wp2_with fail
  refine S2.out.mono ?_
  rintro e w1 ⟨rfl, rfl⟩
  go_wp2_with fail
  refine T.out.mono ?_
  rintro e w2 ⟨A1, n1, c1, rfl, h1, hb2⟩
  have HF := Lib.hid (And.intro h1 hb2)
  clear h1 hb2 T
  go_wp2
  go_ret
  exact ⟨A1, n1, c1, rfl, HF.out⟩
 ·have TB := Lib.hid (fun (N : Nat) (W : World) (hW : Below w.heap.size w W) (hN : N ≤ 65536) => times_ra B m d b N W (h'.below hW) (by omega) hN)
  have HAL := Lib.hid h.lt
  have HBL := Lib.hid h'.lt
  have HX := Lib.hid h
  have e2 : IntKind.i64.wrap ((n : Int) + (m : Int)) = ((n + m : Nat) : Int) := IntWalk.i64_in _ (by omega)
  have f2 : wrap64 ((n : Int) + (m : Int)) = ((n + m : Nat) : Int) := by rw [w64_in _ (by omega)]; omega
  have d1 : decide (((n + m : Nat) : Int) ≤ 3) = false := decide_eq_false (by omega)
  have d2 : decide (n + m ≤ 3) = false := decide_eq_false hs
  generalize ((n + m : Nat) : Int) = q at *
  obtain ⟨ii, hii, hz0, hz1, hz2⟩ := info_parts info_int
  have HI := Lib.hid hii
  have HZ0 := Lib.hid hz0
  have HZ1 := Lib.hid hz1
  have HZ2 := Lib.hid hz2
  clear h h' hs hii hz0 hz1 hz2
  go_enter Tryz.func126, Tryz.ntmps126
  go_wp2_with fail
  clear e2 f2 d1 d2
  go_loopw [5, 6] (fun t5 t6 wr => ∃ (t : Nat) (Ao : Option Addr) (no co : Nat), t ≤ n ∧ t6 = .int .i64 ((t : Int) - 1) ∧ t5 = .slice Ao no co ∧ no + t ≤ 2 * n + m + 1 ∧ Hid (Below w.heap.size w wr ∧ RA wr Ao no co (tp a t * b))) (fun _ t6 _ => (intOf t6 + 1).toNat)
  case atStart => exact ⟨n, none, 0, 0, Nat.le_refl _, by first | rfl | go_num, rfl, by omega, Below.refl _ _, by rw [tp_top HAL.out, Nat.zero_mul]; exact RA.nil⟩
  case round =>
   obtain ⟨t, Ao, no, co, ht, rfl, rfl, hno, hR⟩ := hrel
   by_cases h0 : t = 0
   ·subst h0
    obtain ⟨hB, hra⟩ := hR.out
    rw [tp_zero] at hra
    have T := Lib.hid (trim_ra Ao no co (a * b) wr hra (by omega))
    have HB := Lib.hid hB
    clear hB hra hR TB HX
    go_wp2_with fail
    refine T.out.mono ?_
    rintro e w1 ⟨A1, n1, rfl, hI1, rfl⟩
    have HI1 := Lib.hid hI1
    clear hI1 T
    go_wp2
    go_ret
    exact ⟨A1, n1, co, rfl, HI1.out, HB.out⟩
   ·obtain ⟨j, rfl⟩ : ∃ j, t = j + 1 := ⟨t - 1, by omega⟩
    obtain ⟨ba, oa, hAe, hba, hca⟩ := HX.out.cells (by omega)
    have cj := hca j (by omega)
    have ej : (((j + 1 : Nat) : Int) - 1) = (j : Int) := by omega
    simp only [ej]
    obtain ⟨hB, hra⟩ := hR.out
    have j1 : (0 : Int) ≤ (j : Int) := by omega
    have j2 : (j : Int) < (n : Int) := by omega
    obtain ⟨hs, hsr, hsd, hsv, hsl⟩ := hra.srcOf
    have k1 := (Kp.refl wr).alloc (.cells #[.int .i64 0] 3)
    have q1 : Below w.heap.size w (wr.alloc (.cells #[.int .i64 0] 3)) := hB.trans (Below.mono k1 hB.size)
    have o1 := Own.lit (base := w.heap.size) wr 0 3 hB.size
    have m1 := hsr.below k1
    have HSD := Lib.hid hsd
    have HSV := Lib.hid hsv
    have HSL := Lib.hid hsl
    clear hca hR hB hra hsr hsd hsv hsl
    subst hAe
    go_wp2_with (first
     | (at_builtin; refine wpList_append_my rfl (base := w.heap.size) (e := 3) (size := 1) (bytes := 8) (.tmp 27) (.tmp 28) 66 rfl Tryz.underlying66 HI.out HZ0.out HZ1.out HZ2.out rfl (by decide) (xs := [.int .i64 0]) (news := hs.map (Value.int .i64)) rfl (by exact o1) rfl (by exact m1) (by simp only [maxLen]; omega) (by omega) (by exact q1.size) ?_
        intro B1 cb1 w4 hO1 hb1 hk1
        have g1 : Below w.heap.size w w4 := q1.trans hb1
        clear hb1 hk1))
    have hra4 := Own.front (x := 0) hO1 HSD.out HSV.out (by decide)
    rw [← mv_zero a b j] at hra4
    have HR4 := Lib.hid (And.intro g1 hra4)
    clear hra4 g1 hO1 q1 o1 m1 k1 HSD HSV HSL
    obtain ⟨wv, hwv⟩ : ∃ v, v = w4 := ⟨_, rfl⟩
    rw [← hwv] at HR4 ⊢
    clear hwv
    go_loopw [5, 7] (fun t5 t7 wr => ∃ (s : Nat) (Ai : Option Addr) (ni ci : Nat), t5 = .slice Ai ni ci ∧ t7 = .int .i64 ((1024 * s : Nat) : Int) ∧ ni + j ≤ 2 * n + m + 1 ∧ Hid (Below w.heap.size w wr ∧ RA wr Ai ni ci (mv a b j s))) (fun _ t7 _ => dg a j - (intOf t7).toNat)
    case atStart => exact ⟨0, B1, 1 + no, cb1, rfl, rfl, by omega, HR4.out⟩
    case round =>
     clear HR4
     obtain ⟨s, Ai, ni, ci, rfl, rfl, hni, hR⟩ := hrel
     by_cases hk : 1024 * s < dg a j
     ·have l1 := dg_lt a j
      obtain ⟨z, hz⟩ : ∃ z : Nat, z = dg a j - 1024 * s := ⟨_, rfl⟩
      obtain ⟨N, hN0⟩ : ∃ N : Nat, N = min 1024 z := ⟨_, rfl⟩
      have hN : N ≤ 65536 := by omega
      have hmin : min (1024 * (s + 1)) (dg a j) = min (1024 * s) (dg a j) + N := by omega
      have hme : dg a j - 1024 * (s + 1) < dg a j - 1024 * s := by omega
      have e3 : IntKind.i64.wrap (((dg a j : Nat) : Int) - ((1024 * s : Nat) : Int)) = (z : Int) := by rw [IntWalk.i64_in _ (by omega)]; omega
      have f3 : wrap64 (((dg a j : Nat) : Int) - ((1024 * s : Nat) : Int)) = (z : Int) := by rw [w64_in _ (by omega)]; omega
      have m1 : min 1024 (z : Int) = (N : Int) := by omega
      have m2 : (if z < 1024 then (z : Int) else 1024) = (N : Int) := by split <;> omega
      have m3 : (if (z : Int) < 1024 then (z : Int) else 1024) = (N : Int) := by split <;> omega
      have d1 : decide (((1024 * s : Nat) : Int) < ((dg a j : Nat) : Int)) = true := decide_eq_true (by omega)
      have hst := mv_step a b j s N hmin
      have hlt := mv_lt (s + 1) (j := j) HAL.out HBL.out
      have T1 := Lib.hid (TB.out N wr hR.out.1 hN)
      have T2 := Lib.hid (fun (W : World) (hW : Kp wr W) (A1 : Option Addr) (n1 c1 : Nat) (h1 : RA W A1 n1 c1 (b * N)) (hn1 : n1 ≤ 20000000000) => add_ra Ai A1 ni ci n1 c1 (mv a b j s) (b * N) W (hR.out.2.below hW) h1 (by omega) hn1)
      rw [hst] at T2
      have cj2 := (hR.out.1.cell (p := ⟨ba, oa + j, none⟩) hba).trans cj
      have e9 : IntKind.i64.wrap (((1024 * s : Nat) : Int) + 1024) = ((1024 * (s + 1) : Nat) : Int) := IntWalk.i64_in _ (by omega)
      have f9 : wrap64 (((1024 * s : Nat) : Int) + 1024) = ((1024 * (s + 1) : Nat) : Int) := by rw [w64_in _ (by omega)]; omega
      have HLT := Lib.hid hlt
      have HB := Lib.hid hR.out.1
      have HME := Lib.hid hme
      have hbN : b * N < 65536 ^ (m + 1) := by rw [Nat.pow_succ]; exact Nat.mul_lt_mul_of_lt_of_le HBL.out hN (by decide)
      have HBN := Lib.hid hbN
      clear hst hlt hR hmin hme hbN hz hN0 hk l1
      generalize hk1 : ((1024 * s : Nat) : Int) = k1 at *
      have HK1 := Lib.hid hk1
      generalize hk2 : ((1024 * (s + 1) : Nat) : Int) = k2 at *
      have HK2 := Lib.hid hk2
      clear hk1 hk2
      go_wp2_with fail
      refine T1.out.mono ?_
      rintro e w5 ⟨A5, n5, c5, rfl, h5, hb5⟩
      have hn5 := h5.len HBN.out
      have T3 := Lib.hid (T2.out w5 hb5 A5 n5 c5 h5.ra (by omega))
      have HB5 := Lib.hid (HB.out.trans (hb5.mono HB.out.size))
      clear h5 hb5 T2 T1
      go_wp2_with fail
      refine T3.out.mono ?_
      rintro e w6 ⟨A6, n6, c6, rfl, h6, hb6⟩
      have hn6 := h6.len HLT.out
      have HF := Lib.hid (show Below w.heap.size w w6 ∧ RA w6 A6 n6 c6 (mv a b j (s + 1)) from ⟨HB5.out.trans (hb6.mono HB5.out.size), h6.ra⟩)
      clear h6 hb6 T3
      go_wp2
      go_roundw
      case rel => exact ⟨s + 1, A6, n6, c6, rfl, by rw [HK2.out], by omega, HF.out⟩
      case measure => have := HME.out; rw [← HK1.out, ← HK2.out]; simp [intOf]; omega
     ·have hv := mv_done a b j s (by omega)
      have d1 : decide (((1024 * s : Nat) : Int) < ((dg a j : Nat) : Int)) = false := decide_eq_false (by omega)
      have cj2 := (hR.out.1.cell (p := ⟨ba, oa + j, none⟩) hba).trans cj
      rw [hv] at hR
      have HF := Lib.hid hR.out
      generalize hk1 : ((1024 * s : Nat) : Int) = k1 at *
      clear hk1 hR hv hk
      go_wp2
      go_roundw
      case rel => exact ⟨j, Ai, ni, ci, by omega, by first | rfl | go_num, rfl, hni, HF.out⟩
      case measure => simp [intOf]

end Go.Proofs.YtodkhjihkkmplaaGreat
