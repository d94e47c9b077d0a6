/-
Plain law of a market: the quantities wanted at a price, the prices that clear. No statement of the seat is proved here; no conditions beyond those of each theorem.
-/
import Derived.Test.YtjajigkacccdgaaGreatTcBN
namespace Go.Proofs.YtjajigkacccdgaaGreat
set_option linter.unusedVariables false
set_option linter.unusedSimpArgs false
open Go.RowKit
open Wd

/-- A sum over all steps of all curves. -/
def sw (f : Int × Int → Int) (ls : List (List (Int × Int))) : Int := sumI (ls.map fun l => sumI (l.map f))
theorem sumI_le {α : Type} {f g : α → Int} : ∀ {l : List α}, (∀ s ∈ l, f s ≤ g s) → sumI (l.map f) ≤ sumI (l.map g)
 | [], _ => Int.le_refl _
 | s :: l, h => by
  have h1 := h s (List.mem_cons_self ..)
  have h2 := sumI_le (l := l) fun y hy => h y (List.mem_cons_of_mem _ hy)
  rw [List.map_cons, List.map_cons, sumI, sumI]
  omega
theorem sw_le {f g : Int × Int → Int} {ls : List (List (Int × Int))} (h : ∀ l ∈ ls, ∀ s ∈ l, f s ≤ g s) : sw f ls ≤ sw g ls := sumI_le fun l hl => sumI_le (h l hl)
theorem sw_eq {f g : Int × Int → Int} {ls : List (List (Int × Int))} (h : ∀ l ∈ ls, ∀ s ∈ l, f s = g s) : sw f ls = sw g ls :=
 Int.le_antisymm (sw_le fun l hl s hs => Int.le_of_eq (h l hl s hs)) (sw_le fun l hl s hs => Int.le_of_eq (h l hl s hs).symm)
def fL (side : Int) (q : Rat) (s : Int × Int) : Int := if cmpQ (s.2 : Rat) q = side then s.1 else 0
def fM (side : Int) (q : Rat) (s : Int × Int) : Int := if cmpQ (s.2 : Rat) q = side ∨ cmpQ (s.2 : Rat) q = 0 then s.1 else 0
theorem wsL_sw (side : Int) (q : Rat) (ls : List (List (Int × Int))) : wsL side q ls = sw (fL side q) ls := rfl
theorem wsM_sw (side : Int) (q : Rat) (ls : List (List (Int × Int))) : wsM side q ls = sw (fM side q) ls := rfl
theorem cmpQ_lt {a b : Rat} : cmpQ a b = -1 ↔ a < b := by
 unfold cmpQ
 split
 ·simp_all
 ·split <;> simp_all
theorem cmpQ_gt {a b : Rat} : cmpQ a b = 1 ↔ b < a := by
 unfold cmpQ
 split
 ·rename_i h
  have : ¬ b < a := by grind
  simp [this]
 ·split <;> simp_all
theorem cmpQ_zero {a b : Rat} : cmpQ a b = 0 ↔ a = b := by
 unfold cmpQ
 split
 ·rename_i h
  have : ¬ a = b := by grind
  simp [this]
 ·split
  ·rename_i h
   have : ¬ a = b := by grind
   simp [this]
  ·have : a = b := by grind
   simp [this]
/-- Positive quantities. -/
def Pos (ls : List (List (Int × Int))) : Prop := ∀ l ∈ ls, ∀ s ∈ l, 0 ≤ s.1
theorem Pos.of {up : Bool} {ls : List (List (Int × Int))} (h : ∀ l ∈ ls, chk up l = 0) : Pos ls := fun l hl s hs => by
 have := (chk_ok (h l hl)).2.2.2 s hs
 unfold Bad at this
 omega
theorem up_L {ls : List (List (Int × Int))} (hp : Pos ls) {q r : Rat} (h : q ≤ r) : wsL (-1) q ls ≤ wsL (-1) r ls := sw_le fun l hl s hs => by
 have h0 := hp l hl s hs
 simp only [cmpQ_lt, cmpQ_zero]
 split
 ·rw [if_pos (by grind)]; exact Int.le_refl _
 ·split <;> omega
theorem up_M {ls : List (List (Int × Int))} (hp : Pos ls) {q r : Rat} (h : q ≤ r) : wsM (-1) q ls ≤ wsM (-1) r ls := sw_le fun l hl s hs => by
 have h0 := hp l hl s hs
 simp only [cmpQ_lt, cmpQ_zero]
 split
 ·rw [if_pos (by grind)]; exact Int.le_refl _
 ·split <;> omega
theorem dn_L {ls : List (List (Int × Int))} (hp : Pos ls) {q r : Rat} (h : q ≤ r) : wsL 1 r ls ≤ wsL 1 q ls := sw_le fun l hl s hs => by
 have h0 := hp l hl s hs
 simp only [cmpQ_gt, cmpQ_zero]
 split
 ·rw [if_pos (by grind)]; exact Int.le_refl _
 ·split <;> omega
theorem dn_M {ls : List (List (Int × Int))} (hp : Pos ls) {q r : Rat} (h : q ≤ r) : wsM 1 r ls ≤ wsM 1 q ls := sw_le fun l hl s hs => by
 have h0 := hp l hl s hs
 simp only [cmpQ_gt, cmpQ_zero]
 split
 ·rw [if_pos (by grind)]; exact Int.le_refl _
 ·split <;> omega
/-- The two halves of clearing. -/
def LoB (os bs : List (List (Int × Int))) (q : Rat) : Prop := wsL (-1) q os ≤ wsM 1 q bs
def HiB (os bs : List (List (Int × Int))) (q : Rat) : Prop := wsL 1 q bs ≤ wsM (-1) q os
theorem balB_iff {os bs : List (List (Int × Int))} {q : Rat} : balB os bs q = true ↔ LoB os bs q ∧ HiB os bs q := by simp [balB, LoB, HiB]
theorem LoB.down {os bs : List (List (Int × Int))} (ho : Pos os) (hb : Pos bs) {q r : Rat} (h : LoB os bs r) (hq : q ≤ r) : LoB os bs q := by
 have h1 := up_L ho hq
 have h2 := dn_M hb hq
 unfold LoB at *
 omega
theorem HiB.up {os bs : List (List (Int × Int))} (ho : Pos os) (hb : Pos bs) {q r : Rat} (h : HiB os bs q) (hq : q ≤ r) : HiB os bs r := by
 have h1 := up_M ho hq
 have h2 := dn_L hb hq
 unfold HiB at *
 omega

/-- No step has its price in between. -/
def Gap (ls : List (List (Int × Int))) (q r : Rat) : Prop := ∀ l ∈ ls, ∀ s ∈ l, ¬ (q < ((s.2 : Int) : Rat) ∧ ((s.2 : Int) : Rat) ≤ r)
def Gap' (ls : List (List (Int × Int))) (q r : Rat) : Prop := ∀ l ∈ ls, ∀ s ∈ l, ¬ (q ≤ ((s.2 : Int) : Rat) ∧ ((s.2 : Int) : Rat) < r)
theorem HiB.gap {os bs : List (List (Int × Int))} {q r : Rat} (hq : q ≤ r) (g1 : Gap os q r) (g2 : Gap bs q r) (h : HiB os bs r) : HiB os bs q := by
 have e1 : wsL 1 q bs = wsL 1 r bs := sw_eq fun l hl s hs => by
  have := g2 l hl s hs
  simp only [cmpQ_gt, cmpQ_zero]
  have : q < ((s.2 : Int) : Rat) ↔ r < ((s.2 : Int) : Rat) := by grind
  simp only [this]
 have e2 : wsM (-1) q os = wsM (-1) r os := sw_eq fun l hl s hs => by
  have := g1 l hl s hs
  simp only [cmpQ_lt, cmpQ_zero]
  have : (((s.2 : Int) : Rat) < q ∨ ((s.2 : Int) : Rat) = q) ↔ (((s.2 : Int) : Rat) < r ∨ ((s.2 : Int) : Rat) = r) := by grind
  simp only [this]
 unfold HiB at *
 rw [e1, e2]
 exact h
theorem LoB.gap {os bs : List (List (Int × Int))} {q r : Rat} (hq : q ≤ r) (g1 : Gap' os q r) (g2 : Gap' bs q r) (h : LoB os bs q) : LoB os bs r := by
 have e1 : wsM 1 q bs = wsM 1 r bs := sw_eq fun l hl s hs => by
  have := g2 l hl s hs
  simp only [cmpQ_gt, cmpQ_zero]
  have : (q < ((s.2 : Int) : Rat) ∨ ((s.2 : Int) : Rat) = q) ↔ (r < ((s.2 : Int) : Rat) ∨ ((s.2 : Int) : Rat) = r) := by grind
  simp only [this]
 have e2 : wsL (-1) q os = wsL (-1) r os := sw_eq fun l hl s hs => by
  have := g1 l hl s hs
  simp only [cmpQ_lt, cmpQ_zero]
  have : (((s.2 : Int) : Rat) < q) ↔ (((s.2 : Int) : Rat) < r) := by grind
  simp only [this]
 unfold LoB at *
 rw [← e1, ← e2]
 exact h
/-- The greatest of a list that is not above a bound. -/
theorem most_le {q : Rat} : ∀ {ds : List Int} {a : Int}, a ∈ ds → ((a : Int) : Rat) ≤ q → ∃ d ∈ ds, ((d : Int) : Rat) ≤ q ∧ ∀ e ∈ ds, ((e : Int) : Rat) ≤ q → e ≤ d
 | [], _, h, _ => by simp at h
 | x :: ds, a, h, ha => by
  by_cases hr : ∃ b ∈ ds, ((b : Int) : Rat) ≤ q
  ·obtain ⟨b, hb, hb2⟩ := hr
   obtain ⟨d, h1, h2, h3⟩ := most_le hb hb2
   by_cases hx : ((x : Int) : Rat) ≤ q ∧ d ≤ x
   ·refine ⟨x, List.mem_cons_self .., hx.1, fun e he heq => ?_⟩
    rcases List.mem_cons.1 he with rfl | he
    ·exact Int.le_refl _
    ·exact Int.le_trans (h3 e he heq) hx.2
   ·refine ⟨d, List.mem_cons_of_mem _ h1, h2, fun e he heq => ?_⟩
    rcases List.mem_cons.1 he with rfl | he
    ·by_cases h9 : d ≤ e
     ·exact absurd ⟨heq, h9⟩ hx
     ·omega
    ·exact h3 e he heq
  ·have hax : a = x := by
    rcases List.mem_cons.1 h with e | h
    ·exact e
    ·exact absurd ⟨a, h, ha⟩ hr
   subst hax
   refine ⟨a, List.mem_cons_self .., ha, fun e he heq => ?_⟩
   rcases List.mem_cons.1 he with rfl | he
   ·exact Int.le_refl _
   ·exact absurd ⟨e, he, heq⟩ hr
theorem mem_dists {os bs : List (List (Int × Int))} {l : List (Int × Int)} {s : Int × Int} (h : l ∈ os ∨ l ∈ bs) (hs : s ∈ l) : absI s.2 ∈ dists os bs := by
 refine List.mem_cons_of_mem _ (List.mem_append.2 ?_)
 rcases h with h | h
 ·exact Or.inl (List.mem_flatMap.2 ⟨l, h, List.mem_map.2 ⟨s, hs, rfl⟩⟩)
 ·exact Or.inr (List.mem_flatMap.2 ⟨l, h, List.mem_map.2 ⟨s, hs, rfl⟩⟩)
theorem zero_dists (os bs : List (List (Int × Int))) : (0 : Int) ∈ dists os bs := List.mem_cons_self ..
/-- Of the prices tried one that clears is as near to 0 as any that clears. -/
theorem bal_near {os bs : List (List (Int × Int))} (ho : Pos os) (hb : Pos bs) {q : Rat} (h : balB os bs q = true) : ∃ d ∈ dists os bs, (balB os bs ((d : Int) : Rat) = true ∧ ((d : Int) : Rat) ≤ q) ∨ (balB os bs ((-d : Int) : Rat) = true ∧ ((d : Int) : Rat) ≤ -q) := by
 obtain ⟨h1, h2⟩ := balB_iff.1 h
 by_cases h0 : 0 ≤ q
 ·obtain ⟨d, hd, hd1, hd2⟩ := most_le (zero_dists os bs) (q := q) (by simpa using h0)
  have hd0 := dists_nonneg hd
  have hd0' : (0 : Rat) ≤ ((d : Int) : Rat) := by exact_mod_cast hd0
  have gap : ∀ ls : List (List (Int × Int)), (∀ l ∈ ls, l ∈ os ∨ l ∈ bs) → Gap ls ((d : Int) : Rat) q := fun ls hls l hl s hs hx => by
   have hm := mem_dists (hls l hl) hs
   have hs0 : d < s.2 := by exact_mod_cast hx.1
   have e : absI s.2 = s.2 := by unfold absI; rw [if_neg (by omega)]
   rw [e] at hm
   have := hd2 _ hm hx.2
   omega
  refine ⟨d, hd, Or.inl ⟨balB_iff.2 ⟨h1.down ho hb hd1, h2.gap hd1 (gap os fun l hl => Or.inl hl) (gap bs fun l hl => Or.inr hl)⟩, hd1⟩⟩
 ·obtain ⟨d, hd, hd1, hd2⟩ := most_le (zero_dists os bs) (q := -q) (by grind)
  have hd0 := dists_nonneg hd
  have hd0' : (0 : Rat) ≤ ((d : Int) : Rat) := by exact_mod_cast hd0
  have hneg : (((-d : Int)) : Rat) = -((d : Int) : Rat) := by simp
  have hle : q ≤ (((-d : Int)) : Rat) := by rw [hneg]; grind
  have gap : ∀ ls : List (List (Int × Int)), (∀ l ∈ ls, l ∈ os ∨ l ∈ bs) → Gap' ls q ((-d : Int) : Rat) := fun ls hls l hl s hs hx => by
   have hm := mem_dists (hls l hl) hs
   have hs0 : s.2 < -d := by exact_mod_cast hx.2
   have e : absI s.2 = -s.2 := by unfold absI; rw [if_pos (by omega)]
   rw [e] at hm
   have := hd2 _ hm (by rw [Rat.intCast_neg]; grind)
   omega
  refine ⟨d, hd, Or.inr ⟨balB_iff.2 ⟨h1.gap hle (gap os fun l hl => Or.inl hl) (gap bs fun l hl => Or.inr hl), h2.up ho hb hle⟩, hd1⟩⟩

end Go.Proofs.YtjajigkacccdgaaGreat
