/-
The examples of chapter 25. No statement of the seat is proved here; no conditions beyond those of each theorem.
-/
import Derived.Test.YtnjpojpfiijlfaaGreatC7
namespace Go.Proofs.YtnjpojpfiijlfaaGreat
set_option linter.unusedVariables false
set_option linter.unusedSimpArgs false
open Go.RowKit
open Wd

def okB (S D : List St.Lv) (u : Int) : Bool := match uP S u, uP D u with
  | some a, some b => decide (a < b)
  | _, _ => false
theorem okB_iff {S D : List St.Lv} {u : Int} : okB S D u = true ↔ okU S D u := by
  unfold okB okU
  cases h1 : uP S u <;> cases h2 : uP D u <;> simp
theorem trB {S D : List St.Lv} {n : Nat} (h1 : ∀ k : Nat, k < n → okB S D (k : Int) = true) (h2 : okB S D (n : Int) = false) : TrZ S D (n : Int) := by
  refine ⟨by omega, fun u h0 hu => ?_, fun h => ?_⟩
  · have := h1 u.toNat (by omega)
    rw [Int.toNat_of_nonneg h0] at this
    exact okB_iff.1 this
  · rw [okB_iff.2 h] at h2
    simp at h2
def prB (os bs : List (List (Int × Int))) (p : Int) : Bool :=
  (dists os bs).elem (absI p) && balB os bs ((p : Int) : Rat) && ((dists os bs).all fun d => !(decide (d < absI p)) || (!(balB os bs ((d : Int) : Rat)) && !(balB os bs ((-d : Int) : Rat)))) && (!(decide (p < 0)) || !(balB os bs ((-p : Int) : Rat)))
theorem prB_ok {os bs : List (List (Int × Int))} {p : Int} (h : prB os bs p = true) : PrZ os bs p := by
  unfold prB at h
  simp only [Bool.and_eq_true, Bool.or_eq_true, Bool.not_eq_true', List.all_eq_true, decide_eq_false_iff_not, List.elem_eq_mem, decide_eq_true_eq] at h
  obtain ⟨⟨⟨h1, h2⟩, h3⟩, h4⟩ := h
  refine Or.inl ⟨h1, h2, fun d hd hlt => ?_, fun hp => ?_⟩
  · rcases h3 d hd with h9 | h9
    · exact absurd hlt h9
    · exact h9
  · rcases h4 with h9 | h9
    · exact absurd hp h9
    · exact h9
theorem ex25_0 : RunV [[(5, 1), (4, 3)], [(3, 2)]] [[(4, 9), (4, 2)], [(3, 4)]] 7 (2) 39 [5, 2] [4, 3] [(1, 5, [5, 0]), (2, 3, [0, 3]), (3, 4, [4, 0])] [(9, 4, [4, 0]), (4, 3, [0, 3]), (2, 4, [4, 0])] := by
  have hS : St.IsLv true 2 (St.tri 0 [[(5, 1), (4, 3)], [(3, 2)]]) [(1, 5, [5, 0]), (2, 3, [0, 3]), (3, 4, [4, 0])] := ⟨by simp [St.ltU], fun p => by simp [St.tri]; try omega, by intro x hx; simp at hx; rcases hx with rfl | rfl | rfl <;> decide⟩
  have hD : St.IsLv false 2 (St.tri 0 [[(4, 9), (4, 2)], [(3, 4)]]) [(9, 4, [4, 0]), (4, 3, [0, 3]), (2, 4, [4, 0])] := ⟨by simp [St.ltU], fun p => by simp [St.tri]; try omega, by intro x hx; simp at hx; rcases hx with rfl | rfl | rfl <;> decide⟩
  exact ⟨hS, hD, lv_valid (by decide +kernel) hS, lv_valid (by decide +kernel) hD, trB (n := 7) (by decide +kernel) (by decide +kernel), prB_ok (by decide +kernel), by decide +kernel, by decide +kernel, by decide +kernel⟩
theorem ex25_0_ck : ckB [[(5, 1), (4, 3)], [(3, 2)]] [[(4, 9), (4, 2)], [(3, 4)]] = 0 := by decide +kernel
theorem ex25_1 : RunV [[(5, 1), (4, 3)], [(3, 2)]] [] 0 (0) 0 [0, 0] [] [(1, 5, [5, 0]), (2, 3, [0, 3]), (3, 4, [4, 0])] [] := by
  have hS : St.IsLv true 2 (St.tri 0 [[(5, 1), (4, 3)], [(3, 2)]]) [(1, 5, [5, 0]), (2, 3, [0, 3]), (3, 4, [4, 0])] := ⟨by simp [St.ltU], fun p => by simp [St.tri]; try omega, by intro x hx; simp at hx; rcases hx with rfl | rfl | rfl <;> decide⟩
  have hD : St.IsLv false 0 (St.tri 0 []) [] := ⟨by simp, fun p => by simp [St.tri], by simp⟩
  exact ⟨hS, hD, lv_valid (by decide +kernel) hS, lv_valid (by decide +kernel) hD, trB (n := 0) (by decide +kernel) (by decide +kernel), prB_ok (by decide +kernel), by decide +kernel, by decide +kernel, by decide +kernel⟩
theorem ex25_1_ck : ckB [[(5, 1), (4, 3)], [(3, 2)]] [] = 0 := by decide +kernel
theorem ex25_2 : RunV [[(2, -5)]] [] 0 (-5) 0 [0] [] [(-5, 2, [2])] [] := by
  have hS : St.IsLv true 1 (St.tri 0 [[(2, -5)]]) [(-5, 2, [2])] := ⟨by simp [St.ltU], fun p => by simp [St.tri]; try omega, by intro x hx; simp at hx; rcases hx with rfl <;> decide⟩
  have hD : St.IsLv false 0 (St.tri 0 []) [] := ⟨by simp, fun p => by simp [St.tri], by simp⟩
  exact ⟨hS, hD, lv_valid (by decide +kernel) hS, lv_valid (by decide +kernel) hD, trB (n := 0) (by decide +kernel) (by decide +kernel), prB_ok (by decide +kernel), by decide +kernel, by decide +kernel, by decide +kernel⟩
theorem ex25_2_ck : ckB [[(2, -5)]] [] = 0 := by decide +kernel
theorem ex25_3 : RunV [[(2, 3)]] [[(5, 8)]] 2 (8) 10 [2] [2] [(3, 2, [2])] [(8, 5, [5])] := by
  have hS : St.IsLv true 1 (St.tri 0 [[(2, 3)]]) [(3, 2, [2])] := ⟨by simp [St.ltU], fun p => by simp [St.tri]; try omega, by intro x hx; simp at hx; rcases hx with rfl <;> decide⟩
  have hD : St.IsLv false 1 (St.tri 0 [[(5, 8)]]) [(8, 5, [5])] := ⟨by simp [St.ltU], fun p => by simp [St.tri]; try omega, by intro x hx; simp at hx; rcases hx with rfl <;> decide⟩
  exact ⟨hS, hD, lv_valid (by decide +kernel) hS, lv_valid (by decide +kernel) hD, trB (n := 2) (by decide +kernel) (by decide +kernel), prB_ok (by decide +kernel), by decide +kernel, by decide +kernel, by decide +kernel⟩
theorem ex25_3_ck : ckB [[(2, 3)]] [[(5, 8)]] = 0 := by decide +kernel
theorem ex25_4 : RunV [[(5, 3)]] [[(2, 8)]] 2 (3) 10 [2] [2] [(3, 5, [5])] [(8, 2, [2])] := by
  have hS : St.IsLv true 1 (St.tri 0 [[(5, 3)]]) [(3, 5, [5])] := ⟨by simp [St.ltU], fun p => by simp [St.tri]; try omega, by intro x hx; simp at hx; rcases hx with rfl <;> decide⟩
  have hD : St.IsLv false 1 (St.tri 0 [[(2, 8)]]) [(8, 2, [2])] := ⟨by simp [St.ltU], fun p => by simp [St.tri]; try omega, by intro x hx; simp at hx; rcases hx with rfl <;> decide⟩
  exact ⟨hS, hD, lv_valid (by decide +kernel) hS, lv_valid (by decide +kernel) hD, trB (n := 2) (by decide +kernel) (by decide +kernel), prB_ok (by decide +kernel), by decide +kernel, by decide +kernel, by decide +kernel⟩
theorem ex25_4_ck : ckB [[(5, 3)]] [[(2, 8)]] = 0 := by decide +kernel
theorem ex25_5 : RunV [[(5, -4)]] [[(5, 6)]] 5 (0) 50 [5] [5] [(-4, 5, [5])] [(6, 5, [5])] := by
  have hS : St.IsLv true 1 (St.tri 0 [[(5, -4)]]) [(-4, 5, [5])] := ⟨by simp [St.ltU], fun p => by simp [St.tri]; try omega, by intro x hx; simp at hx; rcases hx with rfl <;> decide⟩
  have hD : St.IsLv false 1 (St.tri 0 [[(5, 6)]]) [(6, 5, [5])] := ⟨by simp [St.ltU], fun p => by simp [St.tri]; try omega, by intro x hx; simp at hx; rcases hx with rfl <;> decide⟩
  exact ⟨hS, hD, lv_valid (by decide +kernel) hS, lv_valid (by decide +kernel) hD, trB (n := 5) (by decide +kernel) (by decide +kernel), prB_ok (by decide +kernel), by decide +kernel, by decide +kernel, by decide +kernel⟩
theorem ex25_5_ck : ckB [[(5, -4)]] [[(5, 6)]] = 0 := by decide +kernel

end Go.Proofs.YtnjpojpfiijlfaaGreat
