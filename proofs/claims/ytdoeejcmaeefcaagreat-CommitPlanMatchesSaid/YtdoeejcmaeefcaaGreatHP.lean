/-
Cost of package energy by one value; the statement EnergyOptimality: the walk. No statement of the seat is proved here; no conditions beyond those of each theorem.
-/
import Derived.Test.YtdoeejcmaeefcaaGreatHN
namespace Go.Proofs.YtdoeejcmaeefcaaGreat
set_option linter.unusedVariables false
set_option linter.unusedSimpArgs false
open Go.RowKit
open Wd
open En (Pc PU)

open Classical in
/-- The error and the value of Cost. -/
noncomputable def ccE (us : List Un) (bs : List Bool) (m : Nat) (xs : List Int) : Int := if echk us m ≠ 0 then echk us m else if xs.length ≠ us.length then 3 else if En.FeasR (pus us bs) xs then 0 else 3
open Classical in
noncomputable def ccV (us : List Un) (bs : List Bool) (m : Nat) (xs : List Int) : Int := if ccE us bs m xs = 0 then En.costR (pus us bs) xs else 0
theorem ccE_ok {us : List Un} {bs : List Bool} {m : Nat} {xs : List Int} (h : ccE us bs m xs = 0) : echk us m = 0 ∧ xs.length = us.length ∧ En.FeasR (pus us bs) xs := by
  classical
  unfold ccE at h
  by_cases h1 : echk us m ≠ 0
  · rw [if_pos h1] at h; exact absurd h h1
  · rw [if_neg h1] at h
    by_cases h2 : xs.length ≠ us.length
    · rw [if_pos h2] at h; cases h
    · rw [if_neg h2] at h
      by_cases h3 : En.FeasR (pus us bs) xs
      · exact ⟨Classical.byContradiction h1, Classical.byContradiction h2, h3⟩
      · rw [if_neg h3] at h; cases h
theorem ccE_yes {us : List Un} {bs : List Bool} {m : Nat} {xs : List Int} (h1 : echk us m = 0) (h2 : xs.length = us.length) (h3 : En.FeasR (pus us bs) xs) : ccE us bs m xs = 0 ∧ ccV us bs m xs = En.costR (pus us bs) xs := by
  classical
  have e : ccE us bs m xs = 0 := by unfold ccE; rw [if_neg (by rw [h1]; simp), if_neg (by rw [h2]; simp), if_pos h3]
  exact ⟨e, by unfold ccV; rw [if_pos e]⟩


theorem feas_sum : ∀ {zs : List PU} {xs : List Int}, En.FeasR zs xs → En.sumR (zs.map PU.dn) ≤ En.sumR xs ∧ En.sumR xs ≤ En.sumR (zs.map PU.up)
  | [], [], _ => ⟨Int.le_refl _, Int.le_refl _⟩
  | z :: zs, x :: xs, h => by
    obtain ⟨h1, h2, h3⟩ := h
    have ih := feas_sum h3
    simp only [List.map_cons, En.sumR]
    omega
  | [], _ :: _, h => h.elim
  | _ :: _, [], h => h.elim
theorem feas_aerr {us : List Un} {bs : List Bool} {m : Nat} {xs : List Int} (h1 : echk us m = 0) (h : En.FeasR (pus us bs) xs) : aerr us bs m (En.sumR xs) = 0 ∧ 0 ≤ En.sumR xs ∧ En.sumR xs ≤ 15000000 := by
  obtain ⟨h5, hmn, hok⟩ := echk_ok h1
  have hokz : ∀ z ∈ us.zip bs, uchk z.1 = 0 := fun z hz => hok z.1 (List.of_mem_zip hz).1
  obtain ⟨_, e1, e2⟩ := pus_ok hokz
  have hs := feas_sum h
  have hr := range_bd _ hokz
  have hl : (us.zip bs).length ≤ 5 := by rw [List.length_zip]; omega
  unfold pus at hs
  rw [e1, e2] at hs
  refine ⟨?_, by omega, by omega⟩
  unfold aerr
  rw [if_neg (by rw [h1]; simp), if_neg (by omega), if_neg (by omega)]
theorem sumR_snoc : ∀ (xs : List Int) (x : Int), En.sumR (xs ++ [x]) = En.sumR xs + x
  | [], x => by simp [En.sumR]
  | y :: xs, x => by rw [List.cons_append, En.sumR, En.sumR, sumR_snoc xs x]; omega
theorem lex_at : ∀ {xs ys : List Int} {k : Nat}, En.lexLe xs ys → (∀ i, i < k → xs[i]?.getD 0 = ys[i]?.getD 0) → k < xs.length → xs[k]?.getD 0 ≠ ys[k]?.getD 0 → xs[k]?.getD 0 < ys[k]?.getD 0
  | [], _, _, _, _, h, _ => absurd h (by simp)
  | _ :: _, [], _, h, _, _, _ => h.elim
  | x :: xs, y :: ys, 0, h, _, _, hne => by
    rcases h with h | ⟨h, _⟩
    · simpa using h
    · exact absurd (by simpa using h) hne
  | x :: xs, y :: ys, k + 1, h, he, hk, hne => by
    have h0 := he 0 (by omega)
    simp only [List.getElem?_cons_zero, Option.getD_some] at h0
    rcases h with h | ⟨_, h⟩
    · omega
    · simpa using lex_at h (fun i hi => by simpa using he (i + 1) (by omega)) (by simpa using hk) (by simpa using hne)

end Go.Proofs.YtdoeejcmaeefcaaGreat