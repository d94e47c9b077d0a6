/-
Plain law of the shares at the clearing price: each curve trades between its bounds, the shares sum to the quantity, their welfare is the welfare. No statement of the seat is proved here; no conditions beyond those of each theorem.
-/
import Derived.Test.YtjajigkacccdgaaGreatTdBR
namespace Go.Proofs.YtjajigkacccdgaaGreat
set_option linter.unusedVariables false
set_option linter.unusedSimpArgs false
open Go.RowKit
open Wd

theorem partI_cons (s : Int × Int) (l : List (Int × Int)) (z : Int) (k : Nat) : partI (s :: l) z (k + 1) = partI l (z - min z s.1) k := by
 unfold partI
 rw [restI_hd]
 rfl
/-- Between the bounds at a price: levels below it are taken whole, levels above it not at all. -/
theorem partI_side (p : Int) : ∀ {l : List (Int × Int)} {z : Int}, (l.map (·.2)).Pairwise (· < ·) → (∀ s ∈ l, 0 ≤ s.1) → aL p l ≤ z → z ≤ aM p l → ∀ k, k < l.length →
  ((l[k]?.getD (0, 0)).2 < p → partI l z k = (l[k]?.getD (0, 0)).1) ∧ (p < (l[k]?.getD (0, 0)).2 → partI l z k = 0) ∧ 0 ≤ partI l z k ∧ partI l z k ≤ (l[k]?.getD (0, 0)).1
 | [], z, _, _, _, _, k, hk => by simp at hk
 | s :: l, z, hs, h, h0, h1, k, hk => by
  have h2 := h s (List.mem_cons_self ..)
  rw [List.map_cons, List.pairwise_cons] at hs
  have hab : ∀ t ∈ l, s.2 < t.2 := fun t ht => hs.1 _ (List.mem_map.2 ⟨t, ht, rfl⟩)
  have hl := fun t ht => h t (List.mem_cons_of_mem _ ht)
  have hb := aL_le_aM p hl
  have hz := (aL_le_aM p h).1
  rw [aL_cons] at h0
  rw [aM_cons] at h1
  have hr : aL p l ≤ z - min z s.1 ∧ z - min z s.1 ≤ aM p l ∧ (s.2 < p → min z s.1 = s.1) ∧ (p < s.2 → min z s.1 = 0) ∧ 0 ≤ min z s.1 ∧ min z s.1 ≤ s.1 := by
   by_cases c1 : s.2 < p
   ·rw [if_pos c1] at h0
    rw [if_pos (by omega)] at h1
    omega
   ·rw [if_neg c1] at h0
    obtain ⟨a1, a2, a3⟩ := above_zero (p := p) (l := l) fun t ht => by have := hab t ht; omega
    by_cases c2 : s.2 ≤ p
    ·rw [if_pos c2] at h1
     omega
    ·rw [if_neg c2] at h1
     omega
  cases k with
  | zero =>
   have e : partI (s :: l) z 0 = min z s.1 := rfl
   rw [e]
   exact ⟨hr.2.2.1, hr.2.2.2.1, hr.2.2.2.2⟩
  | succ k =>
   rw [partI_cons]
   exact partI_side p hs.2 hl hr.1 hr.2.1 k (by simpa using hk)
theorem sumI_set : ∀ {l : List Int} {i : Nat} (d : Int), i < l.length → sumI (l.set i (l[i]?.getD 0 + d)) = sumI l + d
 | [], i, _, h => by simp at h
 | x :: l, 0, d, _ => by simp [sumI]; omega
 | x :: l, i + 1, d, h => by
  have := sumI_set (l := l) (i := i) d (by simpa using h)
  simp only [List.set_cons_succ, List.getElem?_cons_succ, sumI] at this ⊢
  omega
theorem shRow_sum {xs : List Int} {n : Nat} {t : Int} {ys : List Int} (hy : ys.length = n) : ∀ j, j ≤ n → sumI (shRow xs n t ys j) = sumI ys + (t - shRest xs n t j)
 | 0, _ => by simp [shRow, shRest]
 | j + 1, hj => by
  rw [shRow, sumI_set _ (by rw [shRow_len]; omega), shRow_sum hy j (by omega), shRest, shPart]
  omega
theorem take_last {xs : List Int} {k : Nat} (hk : k < xs.length) : sumI (xs.take (k + 1)) = sumI (xs.take k) + xs[k]?.getD 0 := by
 rw [List.take_succ_eq_append_getElem hk, sumI_snoc]
 simp [hk]
theorem shRest_le {xs : List Int} {n : Nat} {t : Int} (hx : ∀ y ∈ xs, 0 ≤ y ∧ y ≤ 1000000) (hl : xs.length = n) (h1 : t ≤ sumI xs) : ∀ j, j ≤ n → shRest xs n t j ≤ sumI (xs.take (n - j))
 | 0, _ => by rw [shRest, Nat.sub_zero, ← hl, List.take_length]; exact h1
 | j + 1, hj => by
  have ih := shRest_le hx hl h1 j (by omega)
  have e : n - j = (n - (j + 1)) + 1 := by omega
  have e2 : n - 1 - j = n - (j + 1) := by omega
  rw [e, take_last (by omega)] at ih
  have h0 := sumI_bd (xs.take (n - (j + 1))) fun y hy => hx y (List.mem_of_mem_take hy)
  rw [shRest, e2]
  omega
theorem shRow_all {xs : List Int} {n : Nat} {t : Int} {ys : List Int} (hx : ∀ y ∈ xs, 0 ≤ y ∧ y ≤ 1000000) (hl : xs.length = n) (h0 : 0 ≤ t) (h1 : t ≤ sumI xs) (hy : ys.length = n) : sumI (shRow xs n t ys n) = sumI ys + t := by
 have a1 := shRest_le hx hl h1 n (Nat.le_refl _)
 have a2 := shRest_bd hx hl h0 n (Nat.le_refl _)
 rw [Nat.sub_self, List.take_zero, sumI] at a1
 rw [shRow_sum hy n (Nat.le_refl _)]
 omega
theorem shAll_sum {up : Bool} {n : Nat} {lv : List St.Lv} (hv : VL up n lv) {z : Int} (hp : ∀ k, k < lv.length → 0 ≤ partI (lvQ lv) z k ∧ partI (lvQ lv) z k ≤ ((lvQ lv)[k]?.getD (0, 0)).1) : ∀ k, k ≤ lv.length → sumI (shAll lv n z k) = z - restI (lvQ lv) z k
 | 0, _ => by
  have : sumI (List.replicate n 0) = 0 := sumI_zero fun x hx => (List.mem_replicate.1 hx).2
  rw [shAll, this, restI]
  omega
 | k + 1, hk => by
  have hm := getD_mem (d := Lv0) (l := lv) (k := k) (by omega)
  have h1 := hp k (by omega)
  rw [lvQ_fst, (hv.sum _ hm).1] at h1
  rw [shAll, shRow_all (hv.parts _ hm).2 (hv.parts _ hm).1 h1.1 h1.2 (shAll_len ..), shAll_sum hv hp k (by omega), restI, partI]
  omega
theorem restI_end : ∀ {l : List (Int × Int)} {z : Int}, (∀ s ∈ l, 0 ≤ s.1) → 0 ≤ z → z ≤ aT l → restI l z l.length = 0
 | [], z, _, h0, h1 => by
  simp only [aT, List.map_nil, sumI] at h1
  show z = 0
  omega
 | s :: l, z, h, h0, h1 => by
  have h2 := h s (List.mem_cons_self ..)
  have hl := fun t ht => h t (List.mem_cons_of_mem _ ht)
  have hb := aL_le_aM 0 hl
  rw [aT_cons] at h1
  rw [List.length_cons, restI_hd]
  exact restI_end hl (by omega) (by omega)
theorem sumI_takeL {α : Type} (f : α → Int) {l : List α} {k : Nat} (hk : k < l.length) (d : α) : sumI ((l.take (k + 1)).map f) = sumI ((l.take k).map f) + f (l[k]?.getD d) := by
 rw [List.take_succ_eq_append_getElem hk, List.map_append, List.map_cons, List.map_nil, sumI_snoc]
 simp [hk]
theorem shPart_le {xs : List Int} {n : Nat} {t : Int} {i : Nat} (hi : i < n) : shPart xs n t (n - 1 - i) ≤ xs[i]?.getD 0 := by
 have e : n - 1 - (n - 1 - i) = i := by omega
 unfold shPart
 rw [e]
 omega
/-- The shares lie between what the parts below and up to the price hold. -/
theorem shAll_side (p : Int) {up : Bool} {n : Nat} {lv : List St.Lv} (hv : VL up n lv) {z : Int}
  (hp : ∀ k, k < lv.length → (((lvQ lv)[k]?.getD (0, 0)).2 < p → partI (lvQ lv) z k = ((lvQ lv)[k]?.getD (0, 0)).1) ∧ (p < ((lvQ lv)[k]?.getD (0, 0)).2 → partI (lvQ lv) z k = 0) ∧ 0 ≤ partI (lvQ lv) z k ∧ partI (lvQ lv) z k ≤ ((lvQ lv)[k]?.getD (0, 0)).1) {i : Nat} (hi : i < n) :
  ∀ k, k ≤ lv.length → sumI ((lv.take k).map fun x => if x.1 < p then x.2.2[i]?.getD 0 else 0) ≤ (shAll lv n z k)[i]?.getD 0 ∧ (shAll lv n z k)[i]?.getD 0 ≤ sumI ((lv.take k).map fun x => if x.1 ≤ p then x.2.2[i]?.getD 0 else 0)
 | 0, _ => by
  have e : (shAll lv n z 0)[i]?.getD 0 = 0 := by simp [shAll, hi]
  rw [e]
  exact ⟨Int.le_refl _, Int.le_refl _⟩
 | k + 1, hk => by
  obtain ⟨i1, i2⟩ := shAll_side p hv hp hi k (by omega)
  have hm := getD_mem (d := Lv0) (l := lv) (k := k) (by omega)
  obtain ⟨h1, h2, h3, h4⟩ := hp k (by omega)
  rw [lvQ_snd, lvQ_fst] at h1
  rw [lvQ_snd] at h2
  obtain ⟨hl, hx⟩ := hv.parts _ hm
  have hs := (hv.sum _ hm).1
  rw [sumI_takeL _ (by omega) Lv0, sumI_takeL _ (by omega) Lv0, shAll, shRow_get (shAll_len ..) n (Nat.le_refl _) i hi, Nat.sub_self, if_pos (Nat.zero_le i)]
  have b1 := shPart_le (xs := (lv[k]?.getD Lv0).2.2) (t := partI (lvQ lv) z k) hi
  have b2 := shPart_bd hx hl h3 (j := n - 1 - i) (by omega)
  by_cases c1 : (lv[k]?.getD Lv0).1 < p
  ·have e := shPart_all hx hl hi
   rw [← hs, ← h1 c1] at e
   rw [if_pos c1, if_pos (by omega), e]
   omega
  ·rw [if_neg c1]
   by_cases c2 : (lv[k]?.getD Lv0).1 ≤ p
   ·rw [if_pos c2]
    omega
   ·rw [if_neg c2, h2 (by omega), shPart_zero hx hl (by omega)]
    omega
namespace St
theorem sum_atF (f : Int → Bool) {l : List (Int × Int)} {ps : List Int} (hn : ps.Nodup) (h : ∀ s ∈ l, s.2 ∈ ps) : sumI (ps.map fun p => if f p then atP l p else 0) = sumI (l.map fun s => if f s.2 then s.1 else 0) := by
 have := sum_pricesF f (T := l.map fun s => (0, s.1, s.2)) hn fun t ht => by
  obtain ⟨s, hs, rfl⟩ := List.mem_map.1 ht
  exact h s hs
 simp only [qty_map, List.map_map] at this
 exact this
theorem parts_sideF (f : Int → Bool) {up : Bool} {ls : List (List (Int × Int))} {lv : List Lv} (h : IsLv up ls.length (tri 0 ls) lv) {i : Nat} (hi : i < ls.length) : sumI (lv.map fun x => if f x.1 then x.2.2[i]?.getD 0 else 0) = sumI ((ls[i]?.getD []).map fun s => if f s.2 then s.1 else 0) := by
 have e : lv.map (fun x => if f x.1 then x.2.2[i]?.getD 0 else 0) = (lv.map (·.1)).map fun p => if f p then atP (ls[i]?.getD []) p else 0 := by
  rw [List.map_map]
  refine List.map_congr_left fun x hx => ?_
  rw [(h.2.2 x hx).2, parts_get hi, part_tri, if_pos (Nat.zero_le _), Nat.sub_zero]
  rfl
 rw [e]
 exact sum_atF f h.nodup fun s hs => (h.2.1 s.2).2 (tri_price.2 ⟨_, getD_mem hi, s, hs, rfl⟩)
theorem parts_side {up : Bool} {ls : List (List (Int × Int))} {lv : List Lv} (h : IsLv up ls.length (tri 0 ls) lv) (p : Int) {i : Nat} (hi : i < ls.length) :
  sumI (lv.map fun x => if x.1 < p then x.2.2[i]?.getD 0 else 0) = aL p (ls[i]?.getD []) ∧ sumI (lv.map fun x => if x.1 ≤ p then x.2.2[i]?.getD 0 else 0) = aM p (ls[i]?.getD []) := by
 have h1 := parts_sideF (fun x => decide (x < p)) h hi
 have h2 := parts_sideF (fun x => decide (x ≤ p)) h hi
 simp only [decide_eq_true_eq] at h1 h2
 exact ⟨h1, h2⟩
end St
/-- What one side of the market trades at a price between its bounds. -/
structure Side (ls : List (List (Int × Int))) (p z : Int) (xs : List Int) : Prop where
 len : xs.length = ls.length
 lo : ∀ i, i < ls.length → aL p (ls[i]?.getD []) ≤ xs[i]?.getD 0
 hi : ∀ i, i < ls.length → xs[i]?.getD 0 ≤ aM p (ls[i]?.getD [])
 sum : sumI xs = z
theorem side_of {p z : Int} {ls : List (List (Int × Int))} {lv : List St.Lv} (h : St.IsLv true ls.length (St.tri 0 ls) lv) {up : Bool} (hv : VL up ls.length lv) (h0 : 0 ≤ z) (m1 : aL p (lvQ lv) ≤ z) (m2 : z ≤ aM p (lvQ lv)) : Side ls p z (shAll lv ls.length z lv.length) := by
 have hq := (lvQ_pos hv).1
 have hp := partI_side p (lvQ_sorted h) hq m1 m2
 rw [lvQ_len] at hp
 have hb := aL_le_aM p hq
 refine ⟨shAll_len .., fun i hi => ?_, fun i hi => ?_, ?_⟩
 ·have := (shAll_side p hv hp hi lv.length (Nat.le_refl _)).1
  rw [List.take_length, (St.parts_side h p hi).1] at this
  exact this
 ·have := (shAll_side p hv hp hi lv.length (Nat.le_refl _)).2
  rw [List.take_length, (St.parts_side h p hi).2] at this
  exact this
 ·have e := restI_end hq h0 (by omega)
  rw [lvQ_len] at e
  rw [shAll_sum hv (fun k hk => (hp k hk).2.2) lv.length (Nat.le_refl _), e]
  omega
theorem VL.neg {up : Bool} {n : Nat} {lv : List St.Lv} (h : VL up n lv) : VL (!up) n (lv.map negV) := by
 refine ⟨by rw [List.length_map]; exact h.len, by rw [List.length_map]; exact h.n0, h.n16, ?_, ?_, ?_, ?_⟩
 ·intro x hx
  obtain ⟨y, hy, rfl⟩ := List.mem_map.1 hx
  have := h.price y hy
  show -1000000 ≤ -y.1 ∧ -y.1 ≤ 1000000
  omega
 ·intro x hx
  obtain ⟨y, hy, rfl⟩ := List.mem_map.1 hx
  exact h.parts y hy
 ·intro x hx
  obtain ⟨y, hy, rfl⟩ := List.mem_map.1 hx
  exact h.sum y hy
 ·have e : (lv.map negV).map (·.1) = (lv.map (·.1)).map fun p => -p := by simp [negV]
  rw [e, List.pairwise_map]
  refine h.mono.imp fun {a b} hab => ?_
  cases up <;> simp [St.ltU] at hab ⊢ <;> omega
theorem negs_len (ls : List (List (Int × Int))) : (negs ls).length = ls.length := by simp [negs]
theorem negs_get (ls : List (List (Int × Int))) (i : Nat) : (negs ls)[i]?.getD [] = negL (ls[i]?.getD []) := by
 unfold negs
 rw [List.getElem?_map]
 cases ls[i]? <;> rfl
/-- Both sides of the market at the clearing price. -/
theorem RunV.sides {os bs : List (List (Int × Int))} {z p wf : Int} {xs ys : List Int} {S D : List St.Lv} (hc : ckB os bs = 0) (h : RunV os bs z p wf xs ys S D) : Side os p z xs ∧ Side (negs bs) (-p) z ys := by
 obtain ⟨⟨m1, m2⟩, m3, m4⟩ := h.mid hc
 constructor
 ·rw [h.x]
  exact side_of h.isS h.vS h.tr.1 m1 m2
 ·have n1 := St.IsLv.neg h.isD
  have n2 := h.vD.neg
  have e := negs_len bs
  rw [← e] at n1 n2
  have := side_of n1 n2 h.tr.1 m3 m4
  rw [e, List.length_map, shAll_neg] at this
  rw [h.y]
  exact this

def costs (ls : List (List (Int × Int))) (xs : List Int) : Nat → Int
 | 0 => 0
 | k + 1 => costs ls xs k + costI (ls[k]?.getD []) (xs[k]?.getD 0) (ls[k]?.getD []).length
theorem Side.costs {ls : List (List (Int × Int))} {p z : Int} {xs : List Int} (h : Side ls p z xs) (hs : ∀ l ∈ ls, (l.map (·.2)).Pairwise (· < ·)) (hq : Pos ls) : costs ls xs ls.length = p * z - gS p ls := by
 have key : ∀ k, k ≤ ls.length → Go.Proofs.YtjajigkacccdgaaGreat.costs ls xs k = p * sumI (xs.take k) - gS p (ls.take k) := by
  intro k
  induction k with
  | zero => intro _; simp [Go.Proofs.YtjajigkacccdgaaGreat.costs, sumI, gS]
  | succ k ih =>
   intro hk
   have hm := getD_mem (d := ([] : List (Int × Int))) (l := ls) (k := k) (by omega)
   have e1 := cz_eq p (hs _ hm) (hq _ hm) (h.lo k (by omega)) (h.hi k (by omega))
   have e2 : gS p (ls.take (k + 1)) = gS p (ls.take k) + aG p (ls[k]?.getD []) := sumI_takeL _ (by omega) _
   rw [Go.Proofs.YtjajigkacccdgaaGreat.costs, ih (by omega), take_last (by have := h.len; omega), e2, costI_cz, e1, Int.mul_add]
   omega
 have := key ls.length (Nat.le_refl _)
 rw [List.take_length, ← h.len, List.take_length, h.sum, h.len] at this
 exact this
theorem negL_get1 (l : List (Int × Int)) (k : Nat) : ((negL l)[k]?.getD (0, 0)).1 = (l[k]?.getD (0, 0)).1 ∧ ((negL l)[k]?.getD (0, 0)).2 = -(l[k]?.getD (0, 0)).2 := by
 unfold negL
 rw [List.getElem?_map]
 cases l[k]? <;> simp
theorem restI_negL (l : List (Int × Int)) (z : Int) : ∀ k, restI (negL l) z k = restI l z k
 | 0 => rfl
 | k + 1 => by rw [restI, restI, restI_negL l z k, (negL_get1 l k).1]
theorem costI_negL (l : List (Int × Int)) (z : Int) : ∀ k, costI (negL l) z k = -costI l z k
 | 0 => rfl
 | k + 1 => by
  rw [costI, costI, costI_negL l z k, partI, partI, restI_negL, (negL_get1 l k).1, (negL_get1 l k).2, Int.mul_neg]
  omega
theorem costs_neg (ls : List (List (Int × Int))) (xs : List Int) : ∀ k, costs (negs ls) xs k = -costs ls xs k
 | 0 => rfl
 | k + 1 => by
  rw [costs, costs, costs_neg ls xs k, negs_get, costI_negL]
  have : (negL (ls[k]?.getD [])).length = (ls[k]?.getD []).length := by simp [negL]
  rw [this]
  omega
theorem chk_up {l : List (Int × Int)} (h : chk true l = 0) : (l.map (·.2)).Pairwise (· < ·) := (chk_mono h).imp fun {a b} hab => by simpa [St.ltU] using hab
theorem chk_dn {l : List (Int × Int)} (h : chk false l = 0) : ((negL l).map (·.2)).Pairwise (· < ·) := by
 have := chk_mono h
 have e : (negL l).map (·.2) = (l.map (·.2)).map fun p => -p := by simp [negL]
 rw [e, List.pairwise_map]
 refine this.imp fun {a b} hab => ?_
 simp [St.ltU] at hab
 omega
/-- Welfare is the welfare of the trade. -/
theorem RunV.trade {os bs : List (List (Int × Int))} {z p wf : Int} {xs ys : List Int} {S D : List St.Lv} (hc : ckB os bs = 0) (h : RunV os bs z p wf xs ys S D) : wf = costs bs ys bs.length - costs os xs os.length := by
 obtain ⟨_, _, ho, hb⟩ := ckB_iff.1 hc
 obtain ⟨h1, h2⟩ := h.sides hc
 have e1 := h1.costs (fun l hl => chk_up (ho l hl)) (Pos.of ho)
 have e2 := h2.costs (fun l hl => by
  obtain ⟨l', hl', rfl⟩ := List.mem_map.1 hl
  exact chk_dn (hb l' hl')) (Pos.of hb).neg
 rw [negs_len, costs_neg, Int.neg_mul] at e2
 rw [h.gain hc, e1]
 omega

end Go.Proofs.YtjajigkacccdgaaGreat