/-
New of package frac. The examples of chapter 25. No statement of the seat is proved here; no conditions beyond those of each theorem.
-/
import Derived.Test.YtjajigkacccdgaaGreatTbBT
import Derived.Test.YtjajigkacccdgaaGreatTbAO
import Derived.Test.YtjajigkacccdgaaGreatTbBR
namespace Go.Proofs.YtjajigkacccdgaaGreat
set_option linter.unusedVariables false
set_option linter.unusedSimpArgs false
open Go.RowKit
open Wd

set_option maxHeartbeats 1000000 in
theorem new_any (n d : Int) (w : World) (hn : n.natAbs ≤ 9223372036854775807) (hd : d.natAbs ≤ 9223372036854775807) (h0 : 0 < d) :
  Calls Tryz.prog 52 #[.int .i64 n, .int .i64 d] w fun e w' => ∃ A k c A' k' c', e = .returned (.tuple #[.agg #[.bool (decide ((mkRat n d.natAbs).num < 0)), .slice A k c, .bool false, .slice A' k' c'], .int .i64 0]) ∧ RQ w' (mkRat n d.natAbs) A k c A' k' c' ∧ Below w.heap.size w w' := by
 have hd0 : (d == 0) = false := by simp; omega
 have T1 := Lib.hid (fun W => fromInt64_any n W (by omega) (by omega))
 have T2 := Lib.hid (fun W => fromInt64_any d W (by omega) (by omega))
 have b3 := pb_zero
 have TR := Lib.hid (fun (W : World) (A B : Option Addr) (j e j' e' : Nat) (h1 : Wat W A j (digs n.natAbs)) (hj : j ≤ e) (h2 : Wat W B j' (digs d.natAbs)) (hj' : j' ≤ e') => reduce_in (pb_ok (k := 0) (by omega)) h1 hj h2 hj' (by omega) (by omega) h0)
 generalize mkRat n d.natAbs = q at *
 clear hn hd h0 b3
 go_enter Tryz.func52, Tryz.ntmps52
 go_wp2_with fail
 obtain ⟨hB0, hBW, hsz⟩ := pre1 w 42 #[.bool false, .slice none 0 0, .bool false, .slice none 0 0]
 generalize w.alloc (.cells #[.bool false, .slice none 0 0, .bool false, .slice none 0 0] 42) = W at *
 have HSZ := Lib.hid hsz
 clear hsz
 have hr1 := RS4.start hB0
 clear hB0
 refine (T1.out _).mono ?_
 rintro e w1 ⟨A3, k3, c3, rfl, hk3, hW3, hF3, hb3⟩
 go_wp2_with fail
 refine (T2.out _).mono ?_
 rintro e w2 ⟨A4, k4, c4, rfl, hk4, hW4, hF4, hb4⟩
 have T3 := Lib.hid (TR.out w2 A3 A4 k3 c3 k4 c4 (hW3.below hb4) hk3 hW4 hk4)
 have hr2 := (hr1.call hb3).call hb4
 generalize decide (n < 0) = s1 at *
 generalize decide (d < 0) = s2 at *
 clear hW3 hW4 hF3 hF4 hb3 hb4 T1 T2 TR hr1 hk3 hk4
 go_wp2_with fail
 refine T3.out.mono ?_
 rintro e w9 ⟨A9, k9, c9, A10, k10, c10, rfl, hk9, hk10, hW9, hW10, hF9, hF10, hb9⟩
 have hl9 : w.heap.size < w2.heap.size := by obtain ⟨_, _, _, _, _, hx⟩ := hr2; exact hx.lt
 have hr9 := hr2.call hb9
 obtain ⟨_, _, _, _, f0, f1, f2, f3, f4, f5, f6, f7⟩ := hr9.four
 have hfin := retQ_close (q := q) hBW (by omega) hl9 hr9 hk9 hk10 hW9 hW10 hF9 hF10
 obtain ⟨d0, d1, d2, d3, -, -, -, -⟩ := (hr9.done (.bool (decide (q.num < 0))) (.slice A9 k9 c9) (.bool false) (.slice A10 k10 c10)).four
 have HF := Lib.hid hfin
 clear hfin hl9 hr9 hr2 T3 hW9 hW10 hF9 hF10 hb9
 go_wp2
 refine bodyPost_ret (v := .tuple #[.agg #[.bool (decide (q.num < 0)), .slice A9 k9 c9, .bool false, .slice A10 k10 c10], .int .i64 0]) ?_ rfl ?_
 ·simp [results, Tryz.results52, go_sem, d0, d1, d2, d3]
 ·obtain ⟨A, k, c, A', k', c', he, h1, h2, h3, h4, h5, h6, h7⟩ := HF.out
  simp at he
  obtain ⟨⟨rfl, rfl, rfl⟩, rfl, rfl, rfl⟩ := he
  exact ⟨_, _, _, _, _, _, rfl, ⟨h1, h2, h3, h4⟩, h7⟩


end Go.Proofs.YtjajigkacccdgaaGreat

namespace Go.Proofs.YtjajigkacccdgaaGreat
set_option linter.unusedVariables false
set_option linter.unusedSimpArgs false
open Go.RowKit
open Wd

def okB (S D : List St.Lv) (u : Int) : Bool := match uP S u, uP D u with
 | some a, some b => decide (a < b)
 | _, _ => false
theorem okB_iff {S D : List St.Lv} {u : Int} : okB S D u = true ↔ okU S D u := by
 unfold okB okU
 cases h1 : uP S u <;> cases h2 : uP D u <;> simp
theorem trB {S D : List St.Lv} {n : Nat} (h1 : ∀ k : Nat, k < n → okB S D (k : Int) = true) (h2 : okB S D (n : Int) = false) : TrZ S D (n : Int) := by
 refine ⟨by omega, fun u h0 hu => ?_, fun h => ?_⟩
 ·have := h1 u.toNat (by omega)
  rw [Int.toNat_of_nonneg h0] at this
  exact okB_iff.1 this
 ·rw [okB_iff.2 h] at h2
  simp at h2
def prB (os bs : List (List (Int × Int))) (p : Int) : Bool :=
 (dists os bs).elem (absI p) && balB os bs ((p : Int) : Rat) && ((dists os bs).all fun d => !(decide (d < absI p)) || (!(balB os bs ((d : Int) : Rat)) && !(balB os bs ((-d : Int) : Rat)))) && (!(decide (p < 0)) || !(balB os bs ((-p : Int) : Rat)))
theorem prB_ok {os bs : List (List (Int × Int))} {p : Int} (h : prB os bs p = true) : PrZ os bs p := by
 unfold prB at h
 simp only [Bool.and_eq_true, Bool.or_eq_true, Bool.not_eq_true', List.all_eq_true, decide_eq_false_iff_not, List.elem_eq_mem, decide_eq_true_eq] at h
 obtain ⟨⟨⟨h1, h2⟩, h3⟩, h4⟩ := h
 refine Or.inl ⟨h1, h2, fun d hd hlt => ?_, fun hp => ?_⟩
 ·rcases h3 d hd with h9 | h9
  ·exact absurd hlt h9
  ·exact h9
 ·rcases h4 with h9 | h9
  ·exact absurd hp h9
  ·exact h9
theorem ex25_0 : RunV [[(5, 1), (4, 3)], [(3, 2)]] [[(4, 9), (4, 2)], [(3, 4)]] 7 (2) 39 [5, 2] [4, 3] [(1, 5, [5, 0]), (2, 3, [0, 3]), (3, 4, [4, 0])] [(9, 4, [4, 0]), (4, 3, [0, 3]), (2, 4, [4, 0])] := by
 have hS : St.IsLv true 2 (St.tri 0 [[(5, 1), (4, 3)], [(3, 2)]]) [(1, 5, [5, 0]), (2, 3, [0, 3]), (3, 4, [4, 0])] := ⟨by simp [St.ltU], fun p => by simp [St.tri]; try omega, by intro x hx; simp at hx; rcases hx with rfl | rfl | rfl <;> decide⟩
 have hD : St.IsLv false 2 (St.tri 0 [[(4, 9), (4, 2)], [(3, 4)]]) [(9, 4, [4, 0]), (4, 3, [0, 3]), (2, 4, [4, 0])] := ⟨by simp [St.ltU], fun p => by simp [St.tri]; try omega, by intro x hx; simp at hx; rcases hx with rfl | rfl | rfl <;> decide⟩
 exact ⟨hS, hD, lv_valid (by decide +kernel) hS, lv_valid (by decide +kernel) hD, trB (n := 7) (by decide +kernel) (by decide +kernel), prB_ok (by decide +kernel), by decide +kernel, by decide +kernel, by decide +kernel⟩
theorem ex25_0_ck : ckB [[(5, 1), (4, 3)], [(3, 2)]] [[(4, 9), (4, 2)], [(3, 4)]] = 0 := by decide +kernel
theorem ex25_1 : RunV [[(5, 1), (4, 3)], [(3, 2)]] [] 0 (0) 0 [0, 0] [] [(1, 5, [5, 0]), (2, 3, [0, 3]), (3, 4, [4, 0])] [] := by
 have hS : St.IsLv true 2 (St.tri 0 [[(5, 1), (4, 3)], [(3, 2)]]) [(1, 5, [5, 0]), (2, 3, [0, 3]), (3, 4, [4, 0])] := ⟨by simp [St.ltU], fun p => by simp [St.tri]; try omega, by intro x hx; simp at hx; rcases hx with rfl | rfl | rfl <;> decide⟩
 have hD : St.IsLv false 0 (St.tri 0 []) [] := ⟨by simp, fun p => by simp [St.tri], by simp⟩
 exact ⟨hS, hD, lv_valid (by decide +kernel) hS, lv_valid (by decide +kernel) hD, trB (n := 0) (by decide +kernel) (by decide +kernel), prB_ok (by decide +kernel), by decide +kernel, by decide +kernel, by decide +kernel⟩
theorem ex25_1_ck : ckB [[(5, 1), (4, 3)], [(3, 2)]] [] = 0 := by decide +kernel
theorem ex25_2 : RunV [[(2, -5)]] [] 0 (-5) 0 [0] [] [(-5, 2, [2])] [] := by
 have hS : St.IsLv true 1 (St.tri 0 [[(2, -5)]]) [(-5, 2, [2])] := ⟨by simp [St.ltU], fun p => by simp [St.tri]; try omega, by intro x hx; simp at hx; rcases hx with rfl <;> decide⟩
 have hD : St.IsLv false 0 (St.tri 0 []) [] := ⟨by simp, fun p => by simp [St.tri], by simp⟩
 exact ⟨hS, hD, lv_valid (by decide +kernel) hS, lv_valid (by decide +kernel) hD, trB (n := 0) (by decide +kernel) (by decide +kernel), prB_ok (by decide +kernel), by decide +kernel, by decide +kernel, by decide +kernel⟩
theorem ex25_2_ck : ckB [[(2, -5)]] [] = 0 := by decide +kernel
theorem ex25_3 : RunV [[(2, 3)]] [[(5, 8)]] 2 (8) 10 [2] [2] [(3, 2, [2])] [(8, 5, [5])] := by
 have hS : St.IsLv true 1 (St.tri 0 [[(2, 3)]]) [(3, 2, [2])] := ⟨by simp [St.ltU], fun p => by simp [St.tri]; try omega, by intro x hx; simp at hx; rcases hx with rfl <;> decide⟩
 have hD : St.IsLv false 1 (St.tri 0 [[(5, 8)]]) [(8, 5, [5])] := ⟨by simp [St.ltU], fun p => by simp [St.tri]; try omega, by intro x hx; simp at hx; rcases hx with rfl <;> decide⟩
 exact ⟨hS, hD, lv_valid (by decide +kernel) hS, lv_valid (by decide +kernel) hD, trB (n := 2) (by decide +kernel) (by decide +kernel), prB_ok (by decide +kernel), by decide +kernel, by decide +kernel, by decide +kernel⟩
theorem ex25_3_ck : ckB [[(2, 3)]] [[(5, 8)]] = 0 := by decide +kernel
theorem ex25_4 : RunV [[(5, 3)]] [[(2, 8)]] 2 (3) 10 [2] [2] [(3, 5, [5])] [(8, 2, [2])] := by
 have hS : St.IsLv true 1 (St.tri 0 [[(5, 3)]]) [(3, 5, [5])] := ⟨by simp [St.ltU], fun p => by simp [St.tri]; try omega, by intro x hx; simp at hx; rcases hx with rfl <;> decide⟩
 have hD : St.IsLv false 1 (St.tri 0 [[(2, 8)]]) [(8, 2, [2])] := ⟨by simp [St.ltU], fun p => by simp [St.tri]; try omega, by intro x hx; simp at hx; rcases hx with rfl <;> decide⟩
 exact ⟨hS, hD, lv_valid (by decide +kernel) hS, lv_valid (by decide +kernel) hD, trB (n := 2) (by decide +kernel) (by decide +kernel), prB_ok (by decide +kernel), by decide +kernel, by decide +kernel, by decide +kernel⟩
theorem ex25_4_ck : ckB [[(5, 3)]] [[(2, 8)]] = 0 := by decide +kernel
theorem ex25_5 : RunV [[(5, -4)]] [[(5, 6)]] 5 (0) 50 [5] [5] [(-4, 5, [5])] [(6, 5, [5])] := by
 have hS : St.IsLv true 1 (St.tri 0 [[(5, -4)]]) [(-4, 5, [5])] := ⟨by simp [St.ltU], fun p => by simp [St.tri]; try omega, by intro x hx; simp at hx; rcases hx with rfl <;> decide⟩
 have hD : St.IsLv false 1 (St.tri 0 [[(5, 6)]]) [(6, 5, [5])] := ⟨by simp [St.ltU], fun p => by simp [St.tri]; try omega, by intro x hx; simp at hx; rcases hx with rfl <;> decide⟩
 exact ⟨hS, hD, lv_valid (by decide +kernel) hS, lv_valid (by decide +kernel) hD, trB (n := 5) (by decide +kernel) (by decide +kernel), prB_ok (by decide +kernel), by decide +kernel, by decide +kernel, by decide +kernel⟩
theorem ex25_5_ck : ckB [[(5, -4)]] [[(5, 6)]] = 0 := by decide +kernel

end Go.Proofs.YtjajigkacccdgaaGreat
