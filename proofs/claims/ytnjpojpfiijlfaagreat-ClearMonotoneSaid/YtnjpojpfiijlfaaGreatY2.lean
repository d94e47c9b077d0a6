/-
Plain law of Share: all of a stack, nothing of it. No statement of the seat is proved here; no conditions beyond those of each theorem.
-/
import Derived.Test.YtnjpojpfiijlfaaGreatGL
namespace Go.Proofs.YtnjpojpfiijlfaaGreat
set_option linter.unusedVariables false
set_option linter.unusedSimpArgs false
open Go.RowKit
open Wd

theorem shRow_get {xs : List Int} {n : Nat} {t : Int} {ys : List Int} (hy : ys.length = n) : ∀ j, j ≤ n → ∀ i, i < n → (shRow xs n t ys j)[i]?.getD 0 = ys[i]?.getD 0 + if n - j ≤ i then shPart xs n t (n - 1 - i) else 0
  | 0, _, i, hi => by rw [shRow, if_neg (by omega)]; omega
  | j + 1, hj, i, hi => by
    have ih := shRow_get (xs := xs) (t := t) hy j (by omega)
    have hlen := shRow_len xs n t ys j
    rw [shRow, List.getElem?_set]
    by_cases e : n - 1 - j = i
    · rw [if_pos e, if_pos (by omega), if_pos (by omega), ih (n - 1 - j) (by omega), if_neg (by omega)]
      simp only [Option.getD_some]
      rw [← e, show n - 1 - (n - 1 - j) = j by omega]
      omega
    · rw [if_neg e, ih i hi]
      by_cases h2 : n - j ≤ i
      · rw [if_pos h2, if_pos (by omega)]
      · rw [if_neg h2, if_neg (by omega)]
theorem shRest_all {xs : List Int} {n : Nat} (hx : ∀ y ∈ xs, 0 ≤ y ∧ y ≤ 1000000) (hl : xs.length = n) : ∀ j, j ≤ n → shRest xs n (sumI xs) j = sumI (xs.take (n - j))
  | 0, _ => by rw [shRest, List.take_of_length_le (by omega)]
  | j + 1, hj => by
    have ih := shRest_all hx hl j (by omega)
    have h1 := take_int (xs := xs) (k := n - (j + 1)) (by omega)
    have h2 := sumI_bd (xs.take (n - (j + 1))) fun y hy => hx y (List.mem_of_mem_take hy)
    have h3 := hx _ (getD_mem (d := 0) (show n - (j + 1) < xs.length by omega))
    rw [show n - (j + 1) + 1 = n - j by omega] at h1
    rw [shRest, ih, h1, sumI_snoc, show n - 1 - j = n - (j + 1) by omega]
    omega
theorem shPart_all {xs : List Int} {n : Nat} (hx : ∀ y ∈ xs, 0 ≤ y ∧ y ≤ 1000000) (hl : xs.length = n) {i : Nat} (hi : i < n) : shPart xs n (sumI xs) (n - 1 - i) = xs[i]?.getD 0 := by
  have h0 := shRest_all hx hl (n - 1 - i) (by omega)
  have h1 := take_int (xs := xs) (k := i) (by omega)
  have h2 := sumI_bd (xs.take i) fun y hy => hx y (List.mem_of_mem_take hy)
  unfold shPart
  rw [h0, show n - (n - 1 - i) = i + 1 by omega, h1, sumI_snoc, show n - 1 - (n - 1 - i) = i by omega]
  omega
theorem shRest_zero {xs : List Int} {n : Nat} (hx : ∀ y ∈ xs, 0 ≤ y ∧ y ≤ 1000000) (hl : xs.length = n) {j : Nat} (hj : j ≤ n) : shRest xs n 0 j = 0 := by
  have := shRest_bd hx hl (Int.le_refl 0) j hj
  omega
theorem shPart_zero {xs : List Int} {n : Nat} (hx : ∀ y ∈ xs, 0 ≤ y ∧ y ≤ 1000000) (hl : xs.length = n) {j : Nat} (hj : j < n) : shPart xs n 0 j = 0 := by
  have h1 := shRest_zero hx hl (j := j) (by omega)
  have := hx _ (getD_mem (d := 0) (show n - 1 - j < xs.length by omega))
  unfold shPart
  rw [h1]
  omega
theorem tot_drop {lv : List St.Lv} {k : Nat} (hk : k < lv.length) : totI (lv.drop k) = (lv[k]?.getD Lv0).2.1 + totI (lv.drop (k + 1)) := by
  rw [List.drop_eq_getElem_cons hk, List.getElem?_eq_getElem hk]
  rfl
theorem restI_all {up : Bool} {n : Nat} {lv : List St.Lv} (hv : VL up n lv) : ∀ k, k ≤ lv.length → restI (lvQ lv) (totI lv) k = totI (lv.drop k)
  | 0, _ => rfl
  | k + 1, hk => by
    have ih := restI_all hv k (by omega)
    have h1 := tot_drop (lv := lv) (k := k) (by omega)
    have h2 := (tot_bd (lv.drop (k + 1)) fun x hx => hv.qty x (List.mem_of_mem_drop hx)).1
    rw [restI, ih, lvQ_fst]
    omega
theorem partI_all {up : Bool} {n : Nat} {lv : List St.Lv} (hv : VL up n lv) {k : Nat} (hk : k < lv.length) : partI (lvQ lv) (totI lv) k = (lv[k]?.getD Lv0).2.1 := by
  have ih := restI_all hv k (by omega)
  have h1 := tot_drop (lv := lv) (k := k) (by omega)
  have h2 := (tot_bd (lv.drop (k + 1)) fun x hx => hv.qty x (List.mem_of_mem_drop hx)).1
  unfold partI
  rw [ih, lvQ_fst]
  omega
theorem partI_zero {up : Bool} {n : Nat} {lv : List St.Lv} (hv : VL up n lv) : ∀ k, k < lv.length → restI (lvQ lv) 0 k = 0 ∧ partI (lvQ lv) 0 k = 0
  | 0, hk => by
    have := hv.qty _ (getD_mem (d := Lv0) hk)
    refine ⟨rfl, ?_⟩
    unfold partI
    rw [lvQ_fst, restI]
    omega
  | k + 1, hk => by
    obtain ⟨h1, h2⟩ := partI_zero hv k (by omega)
    have h3 : restI (lvQ lv) 0 (k + 1) = 0 := by
      unfold partI at h2
      rw [restI, h2, h1]
      rfl
    have := hv.qty _ (getD_mem (d := Lv0) hk)
    refine ⟨h3, ?_⟩
    unfold partI
    rw [h3, lvQ_fst]
    omega
theorem shAll_zero {up : Bool} {n : Nat} {lv : List St.Lv} (hv : VL up n lv) : ∀ k, k ≤ lv.length → ∀ i, i < n → (shAll lv n 0 k)[i]?.getD 0 = 0
  | 0, _, i, hi => by simp [shAll, hi]
  | k + 1, hk, i, hi => by
    have hp := hv.parts _ (getD_mem (d := Lv0) (show k < lv.length by omega))
    rw [shAll, (partI_zero hv k (by omega)).2, shRow_get (shAll_len lv n 0 k) n (Nat.le_refl _) i hi, if_pos (by omega), shPart_zero hp.2 hp.1 (by omega), shAll_zero hv k (by omega) i hi]
    rfl
theorem shAll_tot {up : Bool} {n : Nat} {lv : List St.Lv} (hv : VL up n lv) : ∀ k, k ≤ lv.length → ∀ i, i < n → (shAll lv n (totI lv) k)[i]?.getD 0 = sumI ((lv.take k).map fun x => x.2.2[i]?.getD 0)
  | 0, _, i, hi => by simp [shAll, hi, sumI]
  | k + 1, hk, i, hi => by
    have hm := getD_mem (d := Lv0) (show k < lv.length by omega)
    have hp := hv.parts _ hm
    have e : lv.take (k + 1) = lv.take k ++ [lv[k]?.getD Lv0] := by rw [List.take_add_one, List.getElem?_eq_getElem (by omega)]; rfl
    rw [shAll, partI_all hv (by omega), (hv.sum _ hm).1, shRow_get (shAll_len lv n (totI lv) k) n (Nat.le_refl _) i hi, if_pos (by omega), shPart_all hp.2 hp.1 hi, shAll_tot hv k (by omega) i hi, e, List.map_append, sumI_app]
    simp [sumI]
namespace St
theorem sum_atP : ∀ {l : List (Int × Int)} {ps : List Int}, ps.Nodup → (∀ s ∈ l, s.2 ∈ ps) → sumI (ps.map (atP l)) = qsum l
  | [], ps, _, _ => by
    refine (sumI_zero fun y hy => ?_)
    obtain ⟨x, _, rfl⟩ := List.mem_map.1 hy
    rfl
  | t :: l, ps, hn, h => by
    have ih := sum_atP hn fun s hs => h s (List.mem_cons_of_mem _ hs)
    have e : ps.map (atP (t :: l)) = ps.map fun p => (if t.2 = p then t.1 else 0) + atP l p := rfl
    rw [e, sumI_map_add (fun p => if t.2 = p then t.1 else 0) (atP l), ih]
    have := sumI_one (fun p : Int => p) t.1 (l := ps) (p := t.2) (by simpa using hn) (by simpa using h t (List.mem_cons_self ..))
    rw [this]
    rw [qsum_sumI, qsum_sumI, List.map_cons, sumI]
theorem share_tot {up : Bool} {ls : List (List (Int × Int))} {lv : List Lv} (h : IsLv up ls.length (tri 0 ls) lv) (hv : VL up ls.length lv) {i : Nat} (hi : i < ls.length) : (shAll lv ls.length (totI lv) lv.length)[i]?.getD 0 = qsum (ls[i]?.getD []) := by
  rw [shAll_tot hv lv.length (Nat.le_refl _) i hi, List.take_length]
  have e : lv.map (fun x => x.2.2[i]?.getD 0) = (lv.map (·.1)).map (atP (ls[i]?.getD [])) := by
    rw [List.map_map]
    refine List.map_congr_left fun x hx => ?_
    rw [(h.2.2 x hx).2, parts_get hi, part_tri, if_pos (Nat.zero_le _), Nat.sub_zero]
    rfl
  rw [e]
  refine sum_atP h.nodup fun s hs => (h.2.1 s.2).2 (tri_price.2 ⟨_, getD_mem hi, s, hs, rfl⟩)
end St

end Go.Proofs.YtnjpojpfiijlfaaGreat
