/-
clearingPrice of package clear: the distances. Run of package clear. The statements of layer 25: curve, some; numbers and Same of reference 25. Plain law of a market: the quantities wanted at a price, the prices that clear. Plain law of the clearing price: there is one; it is the nearest to 0; mirrored and enlarged markets. Plain law of the mirrored market: stacks, quantity, shares, welfare. No statement of the seat is proved here; no conditions beyond those of each theorem.
-/
import Derived.Test.YtjajigkacccdgaaGreatTdBP
import Derived.WalkMore
import Derived.Test.YtjajigkacccdgaaGreatTdBK
import Derived.Test.YtjajigkacccdgaaGreatTdBO
namespace Go.Proofs.YtjajigkacccdgaaGreat
set_option linter.unusedVariables false
set_option linter.unusedSimpArgs false
open Go.RowKit
open Go.Sort (Holds)
open Wd

def absI (p : Int) : Int := if p < 0 then -p else p
def absL (l : List (Int × Int)) : List Int := l.map fun s => absI s.2
def absS (ls : List (List (Int × Int))) : List Int := ls.flatMap absL
/-- The distances of the steps' prices from 0. -/
def dists (os bs : List (List (Int × Int))) : List Int := 0 :: (absS os ++ absS bs)






/-- The clearing price: the one nearest to 0 that balances. -/
def PrZ (os bs : List (List (Int × Int))) (p : Int) : Prop :=
 (absI p ∈ dists os bs ∧ balB os bs ((p : Int) : Rat) = true ∧ (∀ d ∈ dists os bs, d < absI p → balB os bs ((d : Int) : Rat) = false ∧ balB os bs ((-d : Int) : Rat) = false) ∧ (p < 0 → balB os bs ((-p : Int) : Rat) = false)) ∨
  (p = 0 ∧ ∀ d ∈ dists os bs, balB os bs ((d : Int) : Rat) = false ∧ balB os bs ((-d : Int) : Rat) = false)
theorem dists_nonneg {os bs : List (List (Int × Int))} {d : Int} (h : d ∈ dists os bs) : 0 ≤ d := by
 have key : ∀ ls : List (List (Int × Int)), d ∈ absS ls → 0 ≤ d := fun ls hm => by
  obtain ⟨l, _, hd⟩ := List.mem_flatMap.1 hm
  obtain ⟨s, _, rfl⟩ := List.mem_map.1 hd
  unfold absI
  split <;> omega
 rcases List.mem_cons.1 h with rfl | h
 ·omega
 ·rcases List.mem_append.1 h with h | h
  ·exact key os h
  ·exact key bs h





end Go.Proofs.YtjajigkacccdgaaGreat
namespace Go.Proofs.YtjajigkacccdgaaGreat
set_option linter.unusedVariables false
set_option linter.unusedSimpArgs false
open Go.RowKit
open Wd

theorem lv_some {up : Bool} {n : Nat} {ls : List (List (Int × Int))} {lv : List St.Lv} (h : St.IsLv up n (St.tri 0 ls) lv) (hk : ∀ l ∈ ls, chk up l = 0) (h0 : ls.length ≠ 0) : lv.length ≠ 0 := fun h9 => by
 have h2 : lv = [] := List.eq_nil_of_length_eq_zero h9
 have h3 := getD_mem (d := ([] : List (Int × Int))) (show 0 < ls.length by omega)
 generalize ls[0]?.getD [] = l0 at *
 have h4 := (chk_ok (hk _ h3)).1
 have h5 := getD_mem (d := ((0, 0) : Int × Int)) (show 0 < l0.length by omega)
 have h6 := (h.2.1 _).2 (St.tri_price.2 ⟨_, h3, _, h5, rfl⟩)
 rw [h2] at h6
 simp at h6

/-- What Run finds. -/
structure RunV (os bs : List (List (Int × Int))) (z p wf : Int) (xs ys : List Int) (S D : List St.Lv) : Prop where
 isS : St.IsLv true os.length (St.tri 0 os) S
 isD : St.IsLv false bs.length (St.tri 0 bs) D
 vS : VL true os.length S
 vD : VL false bs.length D
 tr : TrZ S D z
 pr : PrZ os bs p
 x : xs = shAll S os.length z S.length
 y : ys = shAll D bs.length z D.length
 w : wf = costI (lvQ D) z D.length - costI (lvQ S) z S.length







end Go.Proofs.YtjajigkacccdgaaGreat
namespace Go.Proofs.YtjajigkacccdgaaGreat
set_option linter.unusedVariables false
set_option linter.unusedSimpArgs false
open Go.RowKit
open Wd




theorem PrZ.only {os bs : List (List (Int × Int))} {p p' : Int} (h : PrZ os bs p) (h' : PrZ os bs p') : p = p' := by
 have key : ∀ {p p' : Int}, (absI p ∈ dists os bs ∧ balB os bs ((p : Int) : Rat) = true) → (∀ d ∈ dists os bs, d < absI p' → balB os bs ((d : Int) : Rat) = false ∧ balB os bs ((-d : Int) : Rat) = false) → ¬ absI p < absI p' := by
  intro p p' h1 h2 hlt
  obtain ⟨e1, e2⟩ := h2 _ h1.1 hlt
  have h3 := h1.2
  unfold absI at e1 e2
  split at e1
  ·rename_i hp
   rw [if_pos hp, Int.neg_neg] at e2
   rw [h3] at e2
   simp at e2
  ·rw [h3] at e1
   simp at e1
 have none' : ∀ {p : Int}, (absI p ∈ dists os bs ∧ balB os bs ((p : Int) : Rat) = true) → (∀ d ∈ dists os bs, balB os bs ((d : Int) : Rat) = false ∧ balB os bs ((-d : Int) : Rat) = false) → False := by
  intro p h1 h2
  obtain ⟨e1, e2⟩ := h2 _ h1.1
  have h3 := h1.2
  unfold absI at e1 e2
  split at e1
  ·rename_i hp
   rw [if_pos hp, Int.neg_neg] at e2
   rw [h3] at e2
   simp at e2
  ·rw [h3] at e1
   simp at e1
 rcases h with ⟨a1, a2, a3, a4⟩ | ⟨a1, a2⟩
 ·rcases h' with ⟨b1, b2, b3, b4⟩ | ⟨b1, b2⟩
  ·have k1 := key ⟨a1, a2⟩ b3
   have k2 := key ⟨b1, b2⟩ a3
   by_cases hp : p < 0
   ·by_cases hp' : p' < 0
    ·unfold absI at k1 k2
     rw [if_pos hp, if_pos hp'] at k1 k2
     omega
    ·unfold absI at k1 k2
     rw [if_pos hp, if_neg hp'] at k1 k2
     have e : p' = -p := by omega
     rw [e, a4 hp] at b2
     simp at b2
   ·by_cases hp' : p' < 0
    ·unfold absI at k1 k2
     rw [if_neg hp, if_pos hp'] at k1 k2
     have e : p = -p' := by omega
     rw [e, b4 hp'] at a2
     simp at a2
    ·unfold absI at k1 k2
     rw [if_neg hp, if_neg hp'] at k1 k2
     omega
  ·exact (none' ⟨a1, a2⟩ b2).elim
 ·rcases h' with ⟨b1, b2, b3, b4⟩ | ⟨b1, b2⟩
  ·exact (none' ⟨b1, b2⟩ a2).elim
  ·rw [a1, b1]
theorem RunV.only {os bs : List (List (Int × Int))} {z p wf z' p' wf' : Int} {xs ys xs' ys' : List Int} {S D S' D' : List St.Lv} (h : RunV os bs z p wf xs ys S D) (h' : RunV os bs z' p' wf' xs' ys' S' D') : z = z' ∧ p = p' ∧ wf = wf' ∧ xs = xs' ∧ ys = ys' := by
 have e1 := h.isS.only h'.isS
 have e2 := h.isD.only h'.isD
 subst e1
 subst e2
 have e3 := h.tr.only h'.tr
 subst e3
 exact ⟨rfl, h.pr.only h'.pr, by rw [h.w, h'.w], by rw [h.x, h'.x], by rw [h.y, h'.y]⟩

end Go.Proofs.YtjajigkacccdgaaGreat
namespace Go.Proofs.YtjajigkacccdgaaGreat
set_option linter.unusedVariables false
set_option linter.unusedSimpArgs false
open Go.RowKit
open Wd
/-- A sum over all steps of all curves. -/
def sw (f : Int × Int → Int) (ls : List (List (Int × Int))) : Int := sumI (ls.map fun l => sumI (l.map f))
theorem sumI_le {α : Type} {f g : α → Int} : ∀ {l : List α}, (∀ s ∈ l, f s ≤ g s) → sumI (l.map f) ≤ sumI (l.map g)
 | [], _ => Int.le_refl _
 | s :: l, h => by
  have h1 := h s (List.mem_cons_self ..)
  have h2 := sumI_le (l := l) fun y hy => h y (List.mem_cons_of_mem _ hy)
  rw [List.map_cons, List.map_cons, sumI, sumI]
  omega
theorem sw_le {f g : Int × Int → Int} {ls : List (List (Int × Int))} (h : ∀ l ∈ ls, ∀ s ∈ l, f s ≤ g s) : sw f ls ≤ sw g ls := sumI_le fun l hl => sumI_le (h l hl)
theorem sw_eq {f g : Int × Int → Int} {ls : List (List (Int × Int))} (h : ∀ l ∈ ls, ∀ s ∈ l, f s = g s) : sw f ls = sw g ls :=
 Int.le_antisymm (sw_le fun l hl s hs => Int.le_of_eq (h l hl s hs)) (sw_le fun l hl s hs => Int.le_of_eq (h l hl s hs).symm)
def fL (side : Int) (q : Rat) (s : Int × Int) : Int := if cmpQ (s.2 : Rat) q = side then s.1 else 0
def fM (side : Int) (q : Rat) (s : Int × Int) : Int := if cmpQ (s.2 : Rat) q = side ∨ cmpQ (s.2 : Rat) q = 0 then s.1 else 0
theorem wsL_sw (side : Int) (q : Rat) (ls : List (List (Int × Int))) : wsL side q ls = sw (fL side q) ls := rfl
theorem wsM_sw (side : Int) (q : Rat) (ls : List (List (Int × Int))) : wsM side q ls = sw (fM side q) ls := rfl
theorem cmpQ_lt {a b : Rat} : cmpQ a b = -1 ↔ a < b := by
 unfold cmpQ
 split
 ·simp_all
 ·split <;> simp_all
theorem cmpQ_gt {a b : Rat} : cmpQ a b = 1 ↔ b < a := by
 unfold cmpQ
 split
 ·rename_i h
  have : ¬ b < a := by grind
  simp [this]
 ·split <;> simp_all
theorem cmpQ_zero {a b : Rat} : cmpQ a b = 0 ↔ a = b := by
 unfold cmpQ
 split
 ·rename_i h
  have : ¬ a = b := by grind
  simp [this]
 ·split
  ·rename_i h
   have : ¬ a = b := by grind
   simp [this]
  ·have : a = b := by grind
   simp [this]
/-- Positive quantities. -/
def Pos (ls : List (List (Int × Int))) : Prop := ∀ l ∈ ls, ∀ s ∈ l, 0 ≤ s.1
theorem Pos.of {up : Bool} {ls : List (List (Int × Int))} (h : ∀ l ∈ ls, chk up l = 0) : Pos ls := fun l hl s hs => by
 have := (chk_ok (h l hl)).2.2.2 s hs
 unfold Bad at this
 omega
theorem up_L {ls : List (List (Int × Int))} (hp : Pos ls) {q r : Rat} (h : q ≤ r) : wsL (-1) q ls ≤ wsL (-1) r ls := sw_le fun l hl s hs => by
 have h0 := hp l hl s hs
 simp only [cmpQ_lt, cmpQ_zero]
 split
 ·rw [if_pos (by grind)]; exact Int.le_refl _
 ·split <;> omega
theorem up_M {ls : List (List (Int × Int))} (hp : Pos ls) {q r : Rat} (h : q ≤ r) : wsM (-1) q ls ≤ wsM (-1) r ls := sw_le fun l hl s hs => by
 have h0 := hp l hl s hs
 simp only [cmpQ_lt, cmpQ_zero]
 split
 ·rw [if_pos (by grind)]; exact Int.le_refl _
 ·split <;> omega
theorem dn_L {ls : List (List (Int × Int))} (hp : Pos ls) {q r : Rat} (h : q ≤ r) : wsL 1 r ls ≤ wsL 1 q ls := sw_le fun l hl s hs => by
 have h0 := hp l hl s hs
 simp only [cmpQ_gt, cmpQ_zero]
 split
 ·rw [if_pos (by grind)]; exact Int.le_refl _
 ·split <;> omega
theorem dn_M {ls : List (List (Int × Int))} (hp : Pos ls) {q r : Rat} (h : q ≤ r) : wsM 1 r ls ≤ wsM 1 q ls := sw_le fun l hl s hs => by
 have h0 := hp l hl s hs
 simp only [cmpQ_gt, cmpQ_zero]
 split
 ·rw [if_pos (by grind)]; exact Int.le_refl _
 ·split <;> omega
/-- The two halves of clearing. -/
def LoB (os bs : List (List (Int × Int))) (q : Rat) : Prop := wsL (-1) q os ≤ wsM 1 q bs
def HiB (os bs : List (List (Int × Int))) (q : Rat) : Prop := wsL 1 q bs ≤ wsM (-1) q os
theorem balB_iff {os bs : List (List (Int × Int))} {q : Rat} : balB os bs q = true ↔ LoB os bs q ∧ HiB os bs q := by simp [balB, LoB, HiB]
theorem LoB.down {os bs : List (List (Int × Int))} (ho : Pos os) (hb : Pos bs) {q r : Rat} (h : LoB os bs r) (hq : q ≤ r) : LoB os bs q := by
 have h1 := up_L ho hq
 have h2 := dn_M hb hq
 unfold LoB at *
 omega
theorem HiB.up {os bs : List (List (Int × Int))} (ho : Pos os) (hb : Pos bs) {q r : Rat} (h : HiB os bs q) (hq : q ≤ r) : HiB os bs r := by
 have h1 := up_M ho hq
 have h2 := dn_L hb hq
 unfold HiB at *
 omega

/-- No step has its price in between. -/
def Gap (ls : List (List (Int × Int))) (q r : Rat) : Prop := ∀ l ∈ ls, ∀ s ∈ l, ¬ (q < ((s.2 : Int) : Rat) ∧ ((s.2 : Int) : Rat) ≤ r)
def Gap' (ls : List (List (Int × Int))) (q r : Rat) : Prop := ∀ l ∈ ls, ∀ s ∈ l, ¬ (q ≤ ((s.2 : Int) : Rat) ∧ ((s.2 : Int) : Rat) < r)
theorem HiB.gap {os bs : List (List (Int × Int))} {q r : Rat} (hq : q ≤ r) (g1 : Gap os q r) (g2 : Gap bs q r) (h : HiB os bs r) : HiB os bs q := by
 have e1 : wsL 1 q bs = wsL 1 r bs := sw_eq fun l hl s hs => by
  have := g2 l hl s hs
  simp only [cmpQ_gt, cmpQ_zero]
  have : q < ((s.2 : Int) : Rat) ↔ r < ((s.2 : Int) : Rat) := by grind
  simp only [this]
 have e2 : wsM (-1) q os = wsM (-1) r os := sw_eq fun l hl s hs => by
  have := g1 l hl s hs
  simp only [cmpQ_lt, cmpQ_zero]
  have : (((s.2 : Int) : Rat) < q ∨ ((s.2 : Int) : Rat) = q) ↔ (((s.2 : Int) : Rat) < r ∨ ((s.2 : Int) : Rat) = r) := by grind
  simp only [this]
 unfold HiB at *
 rw [e1, e2]
 exact h
theorem LoB.gap {os bs : List (List (Int × Int))} {q r : Rat} (hq : q ≤ r) (g1 : Gap' os q r) (g2 : Gap' bs q r) (h : LoB os bs q) : LoB os bs r := by
 have e1 : wsM 1 q bs = wsM 1 r bs := sw_eq fun l hl s hs => by
  have := g2 l hl s hs
  simp only [cmpQ_gt, cmpQ_zero]
  have : (q < ((s.2 : Int) : Rat) ∨ ((s.2 : Int) : Rat) = q) ↔ (r < ((s.2 : Int) : Rat) ∨ ((s.2 : Int) : Rat) = r) := by grind
  simp only [this]
 have e2 : wsL (-1) q os = wsL (-1) r os := sw_eq fun l hl s hs => by
  have := g1 l hl s hs
  simp only [cmpQ_lt, cmpQ_zero]
  have : (((s.2 : Int) : Rat) < q) ↔ (((s.2 : Int) : Rat) < r) := by grind
  simp only [this]
 unfold LoB at *
 rw [← e1, ← e2]
 exact h
/-- The greatest of a list that is not above a bound. -/
theorem most_le {q : Rat} : ∀ {ds : List Int} {a : Int}, a ∈ ds → ((a : Int) : Rat) ≤ q → ∃ d ∈ ds, ((d : Int) : Rat) ≤ q ∧ ∀ e ∈ ds, ((e : Int) : Rat) ≤ q → e ≤ d
 | [], _, h, _ => by simp at h
 | x :: ds, a, h, ha => by
  by_cases hr : ∃ b ∈ ds, ((b : Int) : Rat) ≤ q
  ·obtain ⟨b, hb, hb2⟩ := hr
   obtain ⟨d, h1, h2, h3⟩ := most_le hb hb2
   by_cases hx : ((x : Int) : Rat) ≤ q ∧ d ≤ x
   ·refine ⟨x, List.mem_cons_self .., hx.1, fun e he heq => ?_⟩
    rcases List.mem_cons.1 he with rfl | he
    ·exact Int.le_refl _
    ·exact Int.le_trans (h3 e he heq) hx.2
   ·refine ⟨d, List.mem_cons_of_mem _ h1, h2, fun e he heq => ?_⟩
    rcases List.mem_cons.1 he with rfl | he
    ·by_cases h9 : d ≤ e
     ·exact absurd ⟨heq, h9⟩ hx
     ·omega
    ·exact h3 e he heq
  ·have hax : a = x := by
    rcases List.mem_cons.1 h with e | h
    ·exact e
    ·exact absurd ⟨a, h, ha⟩ hr
   subst hax
   refine ⟨a, List.mem_cons_self .., ha, fun e he heq => ?_⟩
   rcases List.mem_cons.1 he with rfl | he
   ·exact Int.le_refl _
   ·exact absurd ⟨e, he, heq⟩ hr
theorem mem_dists {os bs : List (List (Int × Int))} {l : List (Int × Int)} {s : Int × Int} (h : l ∈ os ∨ l ∈ bs) (hs : s ∈ l) : absI s.2 ∈ dists os bs := by
 refine List.mem_cons_of_mem _ (List.mem_append.2 ?_)
 rcases h with h | h
 ·exact Or.inl (List.mem_flatMap.2 ⟨l, h, List.mem_map.2 ⟨s, hs, rfl⟩⟩)
 ·exact Or.inr (List.mem_flatMap.2 ⟨l, h, List.mem_map.2 ⟨s, hs, rfl⟩⟩)
theorem zero_dists (os bs : List (List (Int × Int))) : (0 : Int) ∈ dists os bs := List.mem_cons_self ..
/-- Of the prices tried one that clears is as near to 0 as any that clears. -/
theorem bal_near {os bs : List (List (Int × Int))} (ho : Pos os) (hb : Pos bs) {q : Rat} (h : balB os bs q = true) : ∃ d ∈ dists os bs, (balB os bs ((d : Int) : Rat) = true ∧ ((d : Int) : Rat) ≤ q) ∨ (balB os bs ((-d : Int) : Rat) = true ∧ ((d : Int) : Rat) ≤ -q) := by
 obtain ⟨h1, h2⟩ := balB_iff.1 h
 by_cases h0 : 0 ≤ q
 ·obtain ⟨d, hd, hd1, hd2⟩ := most_le (zero_dists os bs) (q := q) (by simpa using h0)
  have hd0 := dists_nonneg hd
  have hd0' : (0 : Rat) ≤ ((d : Int) : Rat) := by exact_mod_cast hd0
  have gap : ∀ ls : List (List (Int × Int)), (∀ l ∈ ls, l ∈ os ∨ l ∈ bs) → Gap ls ((d : Int) : Rat) q := fun ls hls l hl s hs hx => by
   have hm := mem_dists (hls l hl) hs
   have hs0 : d < s.2 := by exact_mod_cast hx.1
   have e : absI s.2 = s.2 := by unfold absI; rw [if_neg (by omega)]
   rw [e] at hm
   have := hd2 _ hm hx.2
   omega
  refine ⟨d, hd, Or.inl ⟨balB_iff.2 ⟨h1.down ho hb hd1, h2.gap hd1 (gap os fun l hl => Or.inl hl) (gap bs fun l hl => Or.inr hl)⟩, hd1⟩⟩
 ·obtain ⟨d, hd, hd1, hd2⟩ := most_le (zero_dists os bs) (q := -q) (by grind)
  have hd0 := dists_nonneg hd
  have hd0' : (0 : Rat) ≤ ((d : Int) : Rat) := by exact_mod_cast hd0
  have hneg : (((-d : Int)) : Rat) = -((d : Int) : Rat) := by simp
  have hle : q ≤ (((-d : Int)) : Rat) := by rw [hneg]; grind
  have gap : ∀ ls : List (List (Int × Int)), (∀ l ∈ ls, l ∈ os ∨ l ∈ bs) → Gap' ls q ((-d : Int) : Rat) := fun ls hls l hl s hs hx => by
   have hm := mem_dists (hls l hl) hs
   have hs0 : s.2 < -d := by exact_mod_cast hx.2
   have e : absI s.2 = -s.2 := by unfold absI; rw [if_pos (by omega)]
   rw [e] at hm
   have := hd2 _ hm (by rw [Rat.intCast_neg]; grind)
   omega
  refine ⟨d, hd, Or.inr ⟨balB_iff.2 ⟨h1.gap hle (gap os fun l hl => Or.inl hl) (gap bs fun l hl => Or.inr hl), h2.up ho hb hle⟩, hd1⟩⟩

end Go.Proofs.YtjajigkacccdgaaGreat

namespace Go.Proofs.YtjajigkacccdgaaGreat
set_option linter.unusedVariables false
set_option linter.unusedSimpArgs false
open Go.RowKit
open Wd

/-- All prices lie between the bounds. -/
def PrB (ls : List (List (Int × Int))) : Prop := ∀ l ∈ ls, ∀ s ∈ l, -1000000 ≤ s.2 ∧ s.2 ≤ 1000000
theorem PrB.of {up : Bool} {ls : List (List (Int × Int))} (h : ∀ l ∈ ls, chk up l = 0) : PrB ls := fun l hl s hs => by
 have := (chk_ok (h l hl)).2.2.2 s hs
 unfold Bad at this
 omega
theorem sw_zero {f : Int × Int → Int} {ls : List (List (Int × Int))} (h : ∀ l ∈ ls, ∀ s ∈ l, f s = 0) : sw f ls = 0 := by
 rw [sw_eq (g := fun _ => 0) h]
 unfold sw
 refine sumI_zero fun x hx => ?_
 obtain ⟨l, _, rfl⟩ := List.mem_map.1 hx
 refine sumI_zero fun y hy => ?_
 obtain ⟨s, _, rfl⟩ := List.mem_map.1 hy
 rfl
theorem sw_pos {f : Int × Int → Int} {ls : List (List (Int × Int))} (h : ∀ l ∈ ls, ∀ s ∈ l, 0 ≤ f s) : 0 ≤ sw f ls := by
 have := sw_le (f := fun _ => 0) h
 rw [sw_zero (f := fun _ => 0) fun _ _ _ _ => rfl] at this
 exact this
theorem ws_pos {ls : List (List (Int × Int))} (hp : Pos ls) (side : Int) (q : Rat) : 0 ≤ wsL side q ls ∧ 0 ≤ wsM side q ls :=
 ⟨sw_pos fun l hl s hs => by have := hp l hl s hs; split <;> omega, sw_pos fun l hl s hs => by have := hp l hl s hs; split <;> omega⟩
theorem HiB.top {os bs : List (List (Int × Int))} (ho : Pos os) (hb : PrB bs) : HiB os bs ((1000000 : Int) : Rat) := by
 have e : wsL 1 ((1000000 : Int) : Rat) bs = 0 := sw_zero fun l hl s hs => by
  simp only [cmpQ_gt, Rat.intCast_lt_intCast]
  rw [if_neg]
  have := hb l hl s hs
  omega
 unfold HiB
 rw [e]
 exact (ws_pos ho _ _).2
theorem LoB.bottom {os bs : List (List (Int × Int))} (ho : PrB os) (hb : Pos bs) : LoB os bs ((-1000000 : Int) : Rat) := by
 have e : wsL (-1) ((-1000000 : Int) : Rat) os = 0 := sw_zero fun l hl s hs => by
  simp only [cmpQ_lt, Rat.intCast_lt_intCast]
  rw [if_neg]
  have := ho l hl s hs
  omega
 unfold LoB
 rw [e]
 exact (ws_pos hb _ _).2
theorem LoB.step {os bs : List (List (Int × Int))} {n : Int} (h : ¬ HiB os bs ((n : Int) : Rat)) : LoB os bs ((n + 1 : Int) : Rat) := by
 have e1 : wsM 1 ((n + 1 : Int) : Rat) bs = wsL 1 ((n : Int) : Rat) bs := sw_eq fun l hl s hs => by
  simp only [cmpQ_gt, cmpQ_zero, Rat.intCast_lt_intCast, Rat.intCast_inj]
  have : (n + 1 < s.2 ∨ s.2 = n + 1) ↔ n < s.2 := by omega
  simp only [this]
 have e2 : wsL (-1) ((n + 1 : Int) : Rat) os = wsM (-1) ((n : Int) : Rat) os := sw_eq fun l hl s hs => by
  simp only [cmpQ_lt, cmpQ_zero, Rat.intCast_lt_intCast, Rat.intCast_inj]
  have : (s.2 < n + 1) ↔ (s.2 < n ∨ s.2 = n) := by omega
  simp only [this]
 unfold HiB at h
 unfold LoB
 rw [e1, e2]
 omega
/-- Some price clears. -/
theorem bal_some {os bs : List (List (Int × Int))} (ho : Pos os) (hb : Pos bs) (ho' : PrB os) (hb' : PrB bs) : ∃ n : Int, balB os bs ((n : Int) : Rat) = true := by
 have key : ∀ k : Nat, (∃ n : Int, balB os bs ((n : Int) : Rat) = true) ∨ LoB os bs ((-1000000 + k : Int) : Rat) := by
  intro k
  induction k with
  | zero => exact Or.inr (LoB.bottom ho' hb)
  | succ k ih =>
   rcases ih with ih | ih
   ·exact Or.inl ih
   ·by_cases h : HiB os bs ((-1000000 + k : Int) : Rat)
    ·exact Or.inl ⟨_, balB_iff.2 ⟨ih, h⟩⟩
    ·have := LoB.step h
     have e : (-1000000 + (k : Int) + 1) = -1000000 + ((k + 1 : Nat) : Int) := by omega
     rw [e] at this
     exact Or.inr this
 rcases key 2000000 with h | h
 ·exact h
 ·exact ⟨1000000, balB_iff.2 ⟨h, HiB.top ho hb'⟩⟩



theorem absI_bd (p : Int) : 0 ≤ absI p ∧ p ≤ absI p ∧ -p ≤ absI p := by unfold absI; split <;> omega
/-- The clearing price clears, and no price that clears is nearer to 0. -/
theorem PrZ.near {os bs : List (List (Int × Int))} {p : Int} (h : PrZ os bs p) (ho : Pos os) (hb : Pos bs) (ho' : PrB os) (hb' : PrB bs) : balB os bs ((p : Int) : Rat) = true ∧ ∀ q : Rat, balB os bs q = true → ((absI p : Int) : Rat) ≤ q ∨ ((absI p : Int) : Rat) ≤ -q := by
 rcases h with ⟨h1, h2, h3, h4⟩ | ⟨h1, h2⟩
 ·refine ⟨h2, fun q hq => ?_⟩
  obtain ⟨d, hd, hx⟩ := bal_near ho hb hq
  have hle : absI p ≤ d := by
   by_cases h9 : d < absI p
   ·obtain ⟨e1, e2⟩ := h3 d hd h9
    rw [e1, e2] at hx
    simp at hx
   ·omega
  have hle' : ((absI p : Int) : Rat) ≤ ((d : Int) : Rat) := Rat.intCast_le_intCast.2 hle
  rcases hx with ⟨_, hx⟩ | ⟨_, hx⟩
  ·exact Or.inl (Rat.le_trans hle' hx)
  ·exact Or.inr (Rat.le_trans hle' hx)
 ·obtain ⟨n, hn⟩ := bal_some ho hb ho' hb'
  obtain ⟨d, hd, hx⟩ := bal_near ho hb hn
  obtain ⟨e1, e2⟩ := h2 d hd
  rw [e1, e2] at hx
  simp at hx
theorem PrZ.nearI {os bs : List (List (Int × Int))} {p : Int} (h : PrZ os bs p) (ho : Pos os) (hb : Pos bs) (ho' : PrB os) (hb' : PrB bs) : balB os bs ((p : Int) : Rat) = true ∧ ∀ q : Int, balB os bs ((q : Int) : Rat) = true → absI p ≤ absI q := by
 obtain ⟨h1, h2⟩ := h.near ho hb ho' hb'
 refine ⟨h1, fun q hq => ?_⟩
 have h3 := absI_bd q
 rcases h2 _ hq with h | h
 ·have := Rat.intCast_le_intCast.1 h
  omega
 ·rw [← Rat.intCast_neg] at h
  have := Rat.intCast_le_intCast.1 h
  omega

/-- Prices negated. -/
def negL (l : List (Int × Int)) : List (Int × Int) := l.map fun s => (s.1, -s.2)
def negs (ls : List (List (Int × Int))) : List (List (Int × Int)) := ls.map negL
theorem sw_neg (f : Int × Int → Int) (ls : List (List (Int × Int))) : sw f (negs ls) = sw (fun s => f (s.1, -s.2)) ls := by
 unfold sw negs negL
 rw [List.map_map]
 congr 1
 refine List.map_congr_left fun l _ => ?_
 simp only [Function.comp, List.map_map]
 rfl
theorem ws_neg (q : Rat) (ls : List (List (Int × Int))) : (wsL (-1) (-q) (negs ls) = wsL 1 q ls ∧ wsM (-1) (-q) (negs ls) = wsM 1 q ls) ∧ wsL 1 (-q) (negs ls) = wsL (-1) q ls ∧ wsM 1 (-q) (negs ls) = wsM (-1) q ls := by
 simp only [wsL_sw, wsM_sw, sw_neg]
 refine ⟨⟨sw_eq fun l hl s hs => ?_, sw_eq fun l hl s hs => ?_⟩, sw_eq fun l hl s hs => ?_, sw_eq fun l hl s hs => ?_⟩
 all_goals
  simp only [fL, fM, cmpQ_lt, cmpQ_gt, cmpQ_zero, Rat.intCast_neg]
  have h1 : (-((s.2 : Int) : Rat) < -q) ↔ q < ((s.2 : Int) : Rat) := by grind
  have h2 : (-((s.2 : Int) : Rat) = -q) ↔ ((s.2 : Int) : Rat) = q := by grind
  have h3 : (-q < -((s.2 : Int) : Rat)) ↔ ((s.2 : Int) : Rat) < q := by grind
  simp only [h1, h2, h3]

theorem mem_negs {ls : List (List (Int × Int))} {P : Int × Int → Prop} (h : ∀ l ∈ ls, ∀ s ∈ l, P (s.1, -s.2)) : ∀ l ∈ negs ls, ∀ s ∈ l, P s := fun l hl s hs => by
 obtain ⟨l', hl', rfl⟩ := List.mem_map.1 hl
 obtain ⟨s', hs', rfl⟩ := List.mem_map.1 hs
 exact h l' hl' s' hs'
theorem Pos.neg {ls : List (List (Int × Int))} (h : Pos ls) : Pos (negs ls) := mem_negs (P := fun s => 0 ≤ s.1) h

end Go.Proofs.YtjajigkacccdgaaGreat
namespace Go.Proofs.YtjajigkacccdgaaGreat
set_option linter.unusedVariables false
set_option linter.unusedSimpArgs false
open Go.RowKit
open Wd
def negV (x : St.Lv) : St.Lv := (-x.1, x.2)
namespace St
def negT (t : Tr) : Tr := (t.1, t.2.1, -t.2.2)
theorem tri_neg : ∀ (ls : List (List (Int × Int))) (k : Nat), tri k (negs ls) = (tri k ls).map negT
 | [], _ => rfl
 | l :: ls, k => by
  have e : negs (l :: ls) = negL l :: negs ls := rfl
  rw [e, tri, tri, List.map_append, tri_neg ls (k + 1)]
  congr 1
  unfold negL
  rw [List.map_map, List.map_map]
  rfl
theorem qty_neg : ∀ (T : List Tr) (p : Int), qty (T.map negT) (-p) = qty T p
 | [], _ => rfl
 | t :: T, p => by
  rw [List.map_cons, qty, qty, qty_neg T p]
  have : (negT t).2.2 = -p ↔ t.2.2 = p := by unfold negT; simp only; omega
  simp only [this]
  rfl
theorem part_neg : ∀ (T : List Tr) (p : Int) (i : Nat), part (T.map negT) (-p) i = part T p i
 | [], _, _ => rfl
 | t :: T, p, i => by
  rw [List.map_cons, part, part, part_neg T p i]
  have : (negT t).2.2 = -p ↔ t.2.2 = p := by unfold negT; simp only; omega
  simp only [this]
  rfl
theorem parts_neg (n : Nat) (T : List Tr) (p : Int) : parts n (T.map negT) (-p) = parts n T p := by
 unfold parts
 exact List.map_congr_left fun i _ => part_neg T p i
theorem IsLv.neg {up : Bool} {n : Nat} {ls : List (List (Int × Int))} {lv : List Lv} (h : IsLv up n (tri 0 ls) lv) : IsLv (!up) n (tri 0 (negs ls)) (lv.map negV) := by
 rw [tri_neg]
 have e : (lv.map negV).map (·.1) = (lv.map (·.1)).map fun p => -p := by simp [negV]
 refine ⟨?_, fun p => ?_, fun x hx => ?_⟩
 ·rw [e, List.pairwise_map]
  refine h.1.imp fun {a b} hab => ?_
  cases up <;> simp [ltU] at hab ⊢ <;> omega
 ·rw [e]
  constructor
  ·intro hp
   obtain ⟨p', hp', rfl⟩ := List.mem_map.1 hp
   obtain ⟨t, ht, e9⟩ := (h.2.1 p').1 hp'
   exact ⟨negT t, List.mem_map.2 ⟨t, ht, rfl⟩, by rw [← e9]; rfl⟩
  ·rintro ⟨t', ht', rfl⟩
   obtain ⟨t, ht, rfl⟩ := List.mem_map.1 ht'
   exact List.mem_map.2 ⟨t.2.2, (h.2.1 _).2 ⟨t, ht, rfl⟩, rfl⟩
 ·obtain ⟨y, hy, rfl⟩ := List.mem_map.1 hx
  obtain ⟨h1, h2⟩ := h.2.2 y hy
  refine ⟨?_, ?_⟩
  ·show y.2.1 = qty _ (-y.1)
   rw [qty_neg, h1]
  ·show y.2.2 = parts n _ (-y.1)
   rw [parts_neg, h2]
end St
theorem uP_neg : ∀ (lv : List St.Lv) (u : Int), uP (lv.map negV) u = (uP lv u).map fun p => -p
 | [], _ => rfl
 | x :: r, u => by
  rw [List.map_cons, uP, uP]
  show (if u < x.2.1 then some (-x.1) else uP (r.map negV) (u - x.2.1)) = _
  split
  ·rfl
  ·exact uP_neg r _


theorem negV_get (lv : List St.Lv) (k : Nat) : ((lvQ (lv.map negV))[k]?.getD (0, 0)).1 = ((lvQ lv)[k]?.getD (0, 0)).1 ∧ ((lvQ (lv.map negV))[k]?.getD (0, 0)).2 = -((lvQ lv)[k]?.getD (0, 0)).2 := by
 unfold lvQ
 rw [List.map_map, List.getElem?_map, List.getElem?_map]
 cases lv[k]? <;> simp [negV]
theorem restI_neg (lv : List St.Lv) (z : Int) : ∀ k, restI (lvQ (lv.map negV)) z k = restI (lvQ lv) z k
 | 0 => rfl
 | k + 1 => by rw [restI, restI, restI_neg lv z k, (negV_get lv k).1]
theorem partI_neg (lv : List St.Lv) (z : Int) (k : Nat) : partI (lvQ (lv.map negV)) z k = partI (lvQ lv) z k := by
 unfold partI
 rw [restI_neg, (negV_get lv k).1]
theorem costI_neg (lv : List St.Lv) (z : Int) : ∀ k, costI (lvQ (lv.map negV)) z k = -costI (lvQ lv) z k
 | 0 => rfl
 | k + 1 => by
  rw [costI, costI, costI_neg lv z k, partI_neg, (negV_get lv k).2, Int.mul_neg]
  omega
theorem shAll_neg (lv : List St.Lv) (n : Nat) (z : Int) : ∀ k, shAll (lv.map negV) n z k = shAll lv n z k
 | 0 => rfl
 | k + 1 => by
  rw [shAll, shAll, shAll_neg lv n z k, partI_neg]
  congr 1
  rw [List.getElem?_map]
  cases lv[k]? <;> simp [negV, Lv0]
end Go.Proofs.YtjajigkacccdgaaGreat