/-
Plain law of a market: the quantities wanted at a price, the prices that clear. Plain law of the clearing price: there is one; it is the nearest to 0; mirrored and enlarged markets. Short names for the steps of a drawn region. Abs of the packages whole and frac. No statement of the seat is proved here; no conditions beyond those of each theorem.
-/
import Derived.Test.YtjajigkacccdgaaGreatTbBR
import Derived.Test.YtjajigkacccdgaaGreatTbAA
import Derived.OrdersHeld
import Derived.Deep.RegionHeld3
import Derived.Test.YtjajigkacccdgaaGreatTbAN
import Derived.Test.YtjajigkacccdgaaGreatTbAC
import Derived.Test.YtjajigkacccdgaaGreatTbBH
import Derived.Test.YtjajigkacccdgaaGreatTbAK
namespace Go.Proofs.YtjajigkacccdgaaGreat
set_option linter.unusedVariables false
set_option linter.unusedSimpArgs false
open Go.RowKit
open Wd

/-- A sum over all steps of all curves. -/
def sw (f : Int × Int → Int) (ls : List (List (Int × Int))) : Int := sumI (ls.map fun l => sumI (l.map f))
theorem sumI_le {α : Type} {f g : α → Int} : ∀ {l : List α}, (∀ s ∈ l, f s ≤ g s) → sumI (l.map f) ≤ sumI (l.map g)
 | [], _ => Int.le_refl _
 | s :: l, h => by
  have h1 := h s (List.mem_cons_self ..)
  have h2 := sumI_le (l := l) fun y hy => h y (List.mem_cons_of_mem _ hy)
  rw [List.map_cons, List.map_cons, sumI, sumI]
  omega
theorem sw_le {f g : Int × Int → Int} {ls : List (List (Int × Int))} (h : ∀ l ∈ ls, ∀ s ∈ l, f s ≤ g s) : sw f ls ≤ sw g ls := sumI_le fun l hl => sumI_le (h l hl)
theorem sw_eq {f g : Int × Int → Int} {ls : List (List (Int × Int))} (h : ∀ l ∈ ls, ∀ s ∈ l, f s = g s) : sw f ls = sw g ls :=
 Int.le_antisymm (sw_le fun l hl s hs => Int.le_of_eq (h l hl s hs)) (sw_le fun l hl s hs => Int.le_of_eq (h l hl s hs).symm)




theorem cmpQ_lt {a b : Rat} : cmpQ a b = -1 ↔ a < b := by
 unfold cmpQ
 split
 ·simp_all
 ·split <;> simp_all
theorem cmpQ_gt {a b : Rat} : cmpQ a b = 1 ↔ b < a := by
 unfold cmpQ
 split
 ·rename_i h
  have : ¬ b < a := by grind
  simp [this]
 ·split <;> simp_all
theorem cmpQ_zero {a b : Rat} : cmpQ a b = 0 ↔ a = b := by
 unfold cmpQ
 split
 ·rename_i h
  have : ¬ a = b := by grind
  simp [this]
 ·split
  ·rename_i h
   have : ¬ a = b := by grind
   simp [this]
  ·have : a = b := by grind
   simp [this]
/-- Positive quantities. -/
def Pos (ls : List (List (Int × Int))) : Prop := ∀ l ∈ ls, ∀ s ∈ l, 0 ≤ s.1
theorem Pos.of {up : Bool} {ls : List (List (Int × Int))} (h : ∀ l ∈ ls, chk up l = 0) : Pos ls := fun l hl s hs => by
 have := (chk_ok (h l hl)).2.2.2 s hs
 unfold Bad at this
 omega
theorem up_L {ls : List (List (Int × Int))} (hp : Pos ls) {q r : Rat} (h : q ≤ r) : wsL (-1) q ls ≤ wsL (-1) r ls := sw_le fun l hl s hs => by
 have h0 := hp l hl s hs
 simp only [cmpQ_lt, cmpQ_zero]
 split
 ·rw [if_pos (by grind)]; exact Int.le_refl _
 ·split <;> omega
theorem up_M {ls : List (List (Int × Int))} (hp : Pos ls) {q r : Rat} (h : q ≤ r) : wsM (-1) q ls ≤ wsM (-1) r ls := sw_le fun l hl s hs => by
 have h0 := hp l hl s hs
 simp only [cmpQ_lt, cmpQ_zero]
 split
 ·rw [if_pos (by grind)]; exact Int.le_refl _
 ·split <;> omega
theorem dn_L {ls : List (List (Int × Int))} (hp : Pos ls) {q r : Rat} (h : q ≤ r) : wsL 1 r ls ≤ wsL 1 q ls := sw_le fun l hl s hs => by
 have h0 := hp l hl s hs
 simp only [cmpQ_gt, cmpQ_zero]
 split
 ·rw [if_pos (by grind)]; exact Int.le_refl _
 ·split <;> omega
theorem dn_M {ls : List (List (Int × Int))} (hp : Pos ls) {q r : Rat} (h : q ≤ r) : wsM 1 r ls ≤ wsM 1 q ls := sw_le fun l hl s hs => by
 have h0 := hp l hl s hs
 simp only [cmpQ_gt, cmpQ_zero]
 split
 ·rw [if_pos (by grind)]; exact Int.le_refl _
 ·split <;> omega
/-- The two halves of clearing. -/
def LoB (os bs : List (List (Int × Int))) (q : Rat) : Prop := wsL (-1) q os ≤ wsM 1 q bs
def HiB (os bs : List (List (Int × Int))) (q : Rat) : Prop := wsL 1 q bs ≤ wsM (-1) q os
theorem balB_iff {os bs : List (List (Int × Int))} {q : Rat} : balB os bs q = true ↔ LoB os bs q ∧ HiB os bs q := by simp [balB, LoB, HiB]
theorem LoB.down {os bs : List (List (Int × Int))} (ho : Pos os) (hb : Pos bs) {q r : Rat} (h : LoB os bs r) (hq : q ≤ r) : LoB os bs q := by
 have h1 := up_L ho hq
 have h2 := dn_M hb hq
 unfold LoB at *
 omega
theorem HiB.up {os bs : List (List (Int × Int))} (ho : Pos os) (hb : Pos bs) {q r : Rat} (h : HiB os bs q) (hq : q ≤ r) : HiB os bs r := by
 have h1 := up_M ho hq
 have h2 := dn_L hb hq
 unfold HiB at *
 omega
/-- Every price between two that clear clears. -/
theorem bal_mid {os bs : List (List (Int × Int))} (ho : Pos os) (hb : Pos bs) {q r t : Rat} (h1 : balB os bs q = true) (h2 : balB os bs r = true) (hq : q ≤ t) (hr : t ≤ r) : balB os bs t = true :=
 balB_iff.2 ⟨(balB_iff.1 h2).1.down ho hb hr, (balB_iff.1 h1).2.up ho hb hq⟩
/-- No step has its price in between. -/
def Gap (ls : List (List (Int × Int))) (q r : Rat) : Prop := ∀ l ∈ ls, ∀ s ∈ l, ¬ (q < ((s.2 : Int) : Rat) ∧ ((s.2 : Int) : Rat) ≤ r)
def Gap' (ls : List (List (Int × Int))) (q r : Rat) : Prop := ∀ l ∈ ls, ∀ s ∈ l, ¬ (q ≤ ((s.2 : Int) : Rat) ∧ ((s.2 : Int) : Rat) < r)
theorem HiB.gap {os bs : List (List (Int × Int))} {q r : Rat} (hq : q ≤ r) (g1 : Gap os q r) (g2 : Gap bs q r) (h : HiB os bs r) : HiB os bs q := by
 have e1 : wsL 1 q bs = wsL 1 r bs := sw_eq fun l hl s hs => by
  have := g2 l hl s hs
  simp only [cmpQ_gt, cmpQ_zero]
  have : q < ((s.2 : Int) : Rat) ↔ r < ((s.2 : Int) : Rat) := by grind
  simp only [this]
 have e2 : wsM (-1) q os = wsM (-1) r os := sw_eq fun l hl s hs => by
  have := g1 l hl s hs
  simp only [cmpQ_lt, cmpQ_zero]
  have : (((s.2 : Int) : Rat) < q ∨ ((s.2 : Int) : Rat) = q) ↔ (((s.2 : Int) : Rat) < r ∨ ((s.2 : Int) : Rat) = r) := by grind
  simp only [this]
 unfold HiB at *
 rw [e1, e2]
 exact h
theorem LoB.gap {os bs : List (List (Int × Int))} {q r : Rat} (hq : q ≤ r) (g1 : Gap' os q r) (g2 : Gap' bs q r) (h : LoB os bs q) : LoB os bs r := by
 have e1 : wsM 1 q bs = wsM 1 r bs := sw_eq fun l hl s hs => by
  have := g2 l hl s hs
  simp only [cmpQ_gt, cmpQ_zero]
  have : (q < ((s.2 : Int) : Rat) ∨ ((s.2 : Int) : Rat) = q) ↔ (r < ((s.2 : Int) : Rat) ∨ ((s.2 : Int) : Rat) = r) := by grind
  simp only [this]
 have e2 : wsL (-1) q os = wsL (-1) r os := sw_eq fun l hl s hs => by
  have := g1 l hl s hs
  simp only [cmpQ_lt, cmpQ_zero]
  have : (((s.2 : Int) : Rat) < q) ↔ (((s.2 : Int) : Rat) < r) := by grind
  simp only [this]
 unfold LoB at *
 rw [← e1, ← e2]
 exact h
/-- The greatest of a list that is not above a bound. -/
theorem most_le {q : Rat} : ∀ {ds : List Int} {a : Int}, a ∈ ds → ((a : Int) : Rat) ≤ q → ∃ d ∈ ds, ((d : Int) : Rat) ≤ q ∧ ∀ e ∈ ds, ((e : Int) : Rat) ≤ q → e ≤ d
 | [], _, h, _ => by simp at h
 | x :: ds, a, h, ha => by
  by_cases hr : ∃ b ∈ ds, ((b : Int) : Rat) ≤ q
  ·obtain ⟨b, hb, hb2⟩ := hr
   obtain ⟨d, h1, h2, h3⟩ := most_le hb hb2
   by_cases hx : ((x : Int) : Rat) ≤ q ∧ d ≤ x
   ·refine ⟨x, List.mem_cons_self .., hx.1, fun e he heq => ?_⟩
    rcases List.mem_cons.1 he with rfl | he
    ·exact Int.le_refl _
    ·exact Int.le_trans (h3 e he heq) hx.2
   ·refine ⟨d, List.mem_cons_of_mem _ h1, h2, fun e he heq => ?_⟩
    rcases List.mem_cons.1 he with rfl | he
    ·by_cases h9 : d ≤ e
     ·exact absurd ⟨heq, h9⟩ hx
     ·omega
    ·exact h3 e he heq
  ·have hax : a = x := by
    rcases List.mem_cons.1 h with e | h
    ·exact e
    ·exact absurd ⟨a, h, ha⟩ hr
   subst hax
   refine ⟨a, List.mem_cons_self .., ha, fun e he heq => ?_⟩
   rcases List.mem_cons.1 he with rfl | he
   ·exact Int.le_refl _
   ·exact absurd ⟨e, he, heq⟩ hr
theorem mem_dists {os bs : List (List (Int × Int))} {l : List (Int × Int)} {s : Int × Int} (h : l ∈ os ∨ l ∈ bs) (hs : s ∈ l) : absI s.2 ∈ dists os bs := by
 refine List.mem_cons_of_mem _ (List.mem_append.2 ?_)
 rcases h with h | h
 ·exact Or.inl (List.mem_flatMap.2 ⟨l, h, List.mem_map.2 ⟨s, hs, rfl⟩⟩)
 ·exact Or.inr (List.mem_flatMap.2 ⟨l, h, List.mem_map.2 ⟨s, hs, rfl⟩⟩)
theorem zero_dists (os bs : List (List (Int × Int))) : (0 : Int) ∈ dists os bs := List.mem_cons_self ..
/-- Of the prices tried one that clears is as near to 0 as any that clears. -/
theorem bal_near {os bs : List (List (Int × Int))} (ho : Pos os) (hb : Pos bs) {q : Rat} (h : balB os bs q = true) : ∃ d ∈ dists os bs, (balB os bs ((d : Int) : Rat) = true ∧ ((d : Int) : Rat) ≤ q) ∨ (balB os bs ((-d : Int) : Rat) = true ∧ ((d : Int) : Rat) ≤ -q) := by
 obtain ⟨h1, h2⟩ := balB_iff.1 h
 by_cases h0 : 0 ≤ q
 ·obtain ⟨d, hd, hd1, hd2⟩ := most_le (zero_dists os bs) (q := q) (by simpa using h0)
  have hd0 := dists_nonneg hd
  have hd0' : (0 : Rat) ≤ ((d : Int) : Rat) := by exact_mod_cast hd0
  have gap : ∀ ls : List (List (Int × Int)), (∀ l ∈ ls, l ∈ os ∨ l ∈ bs) → Gap ls ((d : Int) : Rat) q := fun ls hls l hl s hs hx => by
   have hm := mem_dists (hls l hl) hs
   have hs0 : d < s.2 := by exact_mod_cast hx.1
   have e : absI s.2 = s.2 := by unfold absI; rw [if_neg (by omega)]
   rw [e] at hm
   have := hd2 _ hm hx.2
   omega
  refine ⟨d, hd, Or.inl ⟨balB_iff.2 ⟨h1.down ho hb hd1, h2.gap hd1 (gap os fun l hl => Or.inl hl) (gap bs fun l hl => Or.inr hl)⟩, hd1⟩⟩
 ·obtain ⟨d, hd, hd1, hd2⟩ := most_le (zero_dists os bs) (q := -q) (by grind)
  have hd0 := dists_nonneg hd
  have hd0' : (0 : Rat) ≤ ((d : Int) : Rat) := by exact_mod_cast hd0
  have hneg : (((-d : Int)) : Rat) = -((d : Int) : Rat) := by simp
  have hle : q ≤ (((-d : Int)) : Rat) := by rw [hneg]; grind
  have gap : ∀ ls : List (List (Int × Int)), (∀ l ∈ ls, l ∈ os ∨ l ∈ bs) → Gap' ls q ((-d : Int) : Rat) := fun ls hls l hl s hs hx => by
   have hm := mem_dists (hls l hl) hs
   have hs0 : s.2 < -d := by exact_mod_cast hx.2
   have e : absI s.2 = -s.2 := by unfold absI; rw [if_pos (by omega)]
   rw [e] at hm
   have := hd2 _ hm (by rw [Rat.intCast_neg]; grind)
   omega
  refine ⟨d, hd, Or.inr ⟨balB_iff.2 ⟨h1.gap hle (gap os fun l hl => Or.inl hl) (gap bs fun l hl => Or.inr hl), h2.up ho hb hle⟩, hd1⟩⟩

end Go.Proofs.YtjajigkacccdgaaGreat

namespace Go.Proofs.YtjajigkacccdgaaGreat
set_option linter.unusedVariables false
set_option linter.unusedSimpArgs false
open Go.RowKit
open Wd

/-- All prices lie between the bounds. -/
def PrB (ls : List (List (Int × Int))) : Prop := ∀ l ∈ ls, ∀ s ∈ l, -1000000 ≤ s.2 ∧ s.2 ≤ 1000000
theorem PrB.of {up : Bool} {ls : List (List (Int × Int))} (h : ∀ l ∈ ls, chk up l = 0) : PrB ls := fun l hl s hs => by
 have := (chk_ok (h l hl)).2.2.2 s hs
 unfold Bad at this
 omega
theorem sw_zero {f : Int × Int → Int} {ls : List (List (Int × Int))} (h : ∀ l ∈ ls, ∀ s ∈ l, f s = 0) : sw f ls = 0 := by
 rw [sw_eq (g := fun _ => 0) h]
 unfold sw
 refine sumI_zero fun x hx => ?_
 obtain ⟨l, _, rfl⟩ := List.mem_map.1 hx
 refine sumI_zero fun y hy => ?_
 obtain ⟨s, _, rfl⟩ := List.mem_map.1 hy
 rfl
theorem sw_pos {f : Int × Int → Int} {ls : List (List (Int × Int))} (h : ∀ l ∈ ls, ∀ s ∈ l, 0 ≤ f s) : 0 ≤ sw f ls := by
 have := sw_le (f := fun _ => 0) h
 rw [sw_zero (f := fun _ => 0) fun _ _ _ _ => rfl] at this
 exact this
theorem ws_pos {ls : List (List (Int × Int))} (hp : Pos ls) (side : Int) (q : Rat) : 0 ≤ wsL side q ls ∧ 0 ≤ wsM side q ls :=
 ⟨sw_pos fun l hl s hs => by have := hp l hl s hs; split <;> omega, sw_pos fun l hl s hs => by have := hp l hl s hs; split <;> omega⟩
theorem HiB.top {os bs : List (List (Int × Int))} (ho : Pos os) (hb : PrB bs) : HiB os bs ((1000000 : Int) : Rat) := by
 have e : wsL 1 ((1000000 : Int) : Rat) bs = 0 := sw_zero fun l hl s hs => by
  simp only [cmpQ_gt, Rat.intCast_lt_intCast]
  rw [if_neg]
  have := hb l hl s hs
  omega
 unfold HiB
 rw [e]
 exact (ws_pos ho _ _).2
theorem LoB.bottom {os bs : List (List (Int × Int))} (ho : PrB os) (hb : Pos bs) : LoB os bs ((-1000000 : Int) : Rat) := by
 have e : wsL (-1) ((-1000000 : Int) : Rat) os = 0 := sw_zero fun l hl s hs => by
  simp only [cmpQ_lt, Rat.intCast_lt_intCast]
  rw [if_neg]
  have := ho l hl s hs
  omega
 unfold LoB
 rw [e]
 exact (ws_pos hb _ _).2
theorem LoB.step {os bs : List (List (Int × Int))} {n : Int} (h : ¬ HiB os bs ((n : Int) : Rat)) : LoB os bs ((n + 1 : Int) : Rat) := by
 have e1 : wsM 1 ((n + 1 : Int) : Rat) bs = wsL 1 ((n : Int) : Rat) bs := sw_eq fun l hl s hs => by
  simp only [cmpQ_gt, cmpQ_zero, Rat.intCast_lt_intCast, Rat.intCast_inj]
  have : (n + 1 < s.2 ∨ s.2 = n + 1) ↔ n < s.2 := by omega
  simp only [this]
 have e2 : wsL (-1) ((n + 1 : Int) : Rat) os = wsM (-1) ((n : Int) : Rat) os := sw_eq fun l hl s hs => by
  simp only [cmpQ_lt, cmpQ_zero, Rat.intCast_lt_intCast, Rat.intCast_inj]
  have : (s.2 < n + 1) ↔ (s.2 < n ∨ s.2 = n) := by omega
  simp only [this]
 unfold HiB at h
 unfold LoB
 rw [e1, e2]
 omega
/-- Some price clears. -/
theorem bal_some {os bs : List (List (Int × Int))} (ho : Pos os) (hb : Pos bs) (ho' : PrB os) (hb' : PrB bs) : ∃ n : Int, balB os bs ((n : Int) : Rat) = true := by
 have key : ∀ k : Nat, (∃ n : Int, balB os bs ((n : Int) : Rat) = true) ∨ LoB os bs ((-1000000 + k : Int) : Rat) := by
  intro k
  induction k with
  | zero => exact Or.inr (LoB.bottom ho' hb)
  | succ k ih =>
   rcases ih with ih | ih
   ·exact Or.inl ih
   ·by_cases h : HiB os bs ((-1000000 + k : Int) : Rat)
    ·exact Or.inl ⟨_, balB_iff.2 ⟨ih, h⟩⟩
    ·have := LoB.step h
     have e : (-1000000 + (k : Int) + 1) = -1000000 + ((k + 1 : Nat) : Int) := by omega
     rw [e] at this
     exact Or.inr this
 rcases key 2000000 with h | h
 ·exact h
 ·exact ⟨1000000, balB_iff.2 ⟨h, HiB.top ho hb'⟩⟩

theorem absI_or (p : Int) : (0 ≤ p ∧ absI p = p) ∨ (p < 0 ∧ absI p = -p) := by unfold absI; split <;> omega


/-- The clearing price clears, and no price that clears is nearer to 0. -/
theorem PrZ.near {os bs : List (List (Int × Int))} {p : Int} (h : PrZ os bs p) (ho : Pos os) (hb : Pos bs) (ho' : PrB os) (hb' : PrB bs) : balB os bs ((p : Int) : Rat) = true ∧ ∀ q : Rat, balB os bs q = true → ((absI p : Int) : Rat) ≤ q ∨ ((absI p : Int) : Rat) ≤ -q := by
 rcases h with ⟨h1, h2, h3, h4⟩ | ⟨h1, h2⟩
 ·refine ⟨h2, fun q hq => ?_⟩
  obtain ⟨d, hd, hx⟩ := bal_near ho hb hq
  have hle : absI p ≤ d := by
   by_cases h9 : d < absI p
   ·obtain ⟨e1, e2⟩ := h3 d hd h9
    rw [e1, e2] at hx
    simp at hx
   ·omega
  have hle' : ((absI p : Int) : Rat) ≤ ((d : Int) : Rat) := Rat.intCast_le_intCast.2 hle
  rcases hx with ⟨_, hx⟩ | ⟨_, hx⟩
  ·exact Or.inl (Rat.le_trans hle' hx)
  ·exact Or.inr (Rat.le_trans hle' hx)
 ·obtain ⟨n, hn⟩ := bal_some ho hb ho' hb'
  obtain ⟨d, hd, hx⟩ := bal_near ho hb hn
  obtain ⟨e1, e2⟩ := h2 d hd
  rw [e1, e2] at hx
  simp at hx










end Go.Proofs.YtjajigkacccdgaaGreat
namespace Go.Proofs.YtjajigkacccdgaaGreat
set_option linter.unusedVariables false
set_option linter.unusedSimpArgs false
open Go
theorem p1 {α : Type} {xs : List α} {i : Nat} (h : i < xs.toArray.size) : xs.toArray[i] = xs[i]'(by simpa using h) := List.getElem_toArray h
theorem p2 {α : Type} {a : α} {xs : List α} (h : 0 < (a :: xs).length) : (a :: xs)[0] = a := rfl
theorem p3 {α : Type} {a : α} {xs : List α} {i : Nat} (h : i + 1 < (a :: xs).length) : (a :: xs)[i + 1] = xs[i]'(Nat.lt_of_succ_lt_succ h) := rfl
theorem p4 {α : Type} (l : List α) (i : Nat) (a : α) : l.toArray.setIfInBounds i a = (l.set i a).toArray := List.setIfInBounds_toArray l i a
theorem p5 {α : Type} {x a : α} {xs : List α} : (x :: xs).set 0 a = a :: xs := rfl
theorem p6 {α : Type} {x a : α} {xs : List α} {n : Nat} : (x :: xs).set (n + 1) a = x :: xs.set n a := rfl
section
variable {P : Program} {ops : Array Oper} {Q : Exit → Act → World → Prop} {md : Region.Mode} {S : World → Prop}
/-- Take number i first; its value v. -/
theorem tkk {oi : Oper} {v : Value} {fuel : Nat} {listed : Array Bool} {a : Act} {w : World} (i : Nat) (hi : ops[i]? = some oi) (hc : (Region.noSelect ops && (Region.free md ops listed i && (Region.ready md ops listed).contains i)) = true)
  (hQ : ∀ c a w, Q (.panic c) (a.put oi.dst v) w → Q (.panic c) a w) (hy : YieldsIf P ops S oi v a) (hS : S w) (h : wpAnyH P md ops Q S fuel (listed.setIfInBounds i true) (a.put oi.dst v) w) : wpAnyH P md ops Q S (fuel + 1) listed a w := by
 simp only [Bool.and_eq_true] at hc
 exact wpAnyH_take hi hc.1 hc.2.1 hc.2.2 hQ hy hS h
end

end Go.Proofs.YtjajigkacccdgaaGreat

namespace Go.Proofs.YtjajigkacccdgaaGreat
set_option linter.unusedVariables false
set_option linter.unusedSimpArgs false
open Go.RowKit
open Wd

set_option maxHeartbeats 1000000 in
theorem zabs_any (neg : Bool) (A : Option Addr) (n c : Nat) (l : List Nat) (w : World) (h : Wat w A n l) (hnc : n ≤ c) (hm : n ≤ 1000000000000) :
  Calls Tryz.prog 113 #[.agg #[.bool neg, .slice A n c]] w (RetZ w ((val l : Nat) : Int)) := by
 have hsn : sg false (val l) = ((val l : Nat) : Int) := by unfold sg; simp
 rw [← hsn]
 clear hsn
 go_enter Tryz.func113, Tryz.ntmps113
 go_wp2_with fail
 obtain ⟨hB0, hB1, hBW, hsz⟩ := pre2 w 40 #[.bool neg, .slice A n c] 40 #[.bool false, .slice none 0 0]
 generalize (w.alloc (.cells #[.bool neg, .slice A n c] 40)).alloc (.cells #[.bool false, .slice none 0 0] 40) = W at *
 have HSZ := Lib.hid hsz
 clear hsz
 have s4 := RS.start hB1
 have hw : ∀ w', RS (w.heap.size + 1) 40 W w' → Wat w' A n l := fun w' hk => h.below (hBW.trans (hk.1.mono (by omega)))
 have HW := Lib.hid hw
 clear hw
 obtain ⟨-, c1⟩ := hB0.two
 have HWW := Lib.hid (HW.out _ s4)
 refine (trim_any A n c l _ HWW.out hnc (by omega)).mono ?_
 rintro e w1 ⟨rfl, rfl⟩
 go_wp2_with fail
 refine (clone_any A _ c _ _ HWW.out.trim (by have := h.trim_le; omega)).mono ?_
 rintro e w1 ⟨A1, c1, rfl, hk1, hcm1, hW1, hF1, hb1⟩
 have hr1 := s4.call hb1
 go_wp2_with fail
 refine (build_any false A1 _ c1 _ _ hW1 hk1 (by have := h.trim_le; omega)).mono ?_
 intro e w2 hr
 have hr := RetZ.of_in hb1 hW1 hF1 hk1 hr
 rw [val_digs] at hr
 obtain ⟨A2, k2, c2, rfl, hk2, hW2, hF2, hb2⟩ := hr
 have hr2 := s4.call hb2
 obtain ⟨_, _, _, _, f0, f1⟩ := hr2.two
 have hfin := retZ_close hBW (by omega) (by have := HSZ.out; show _ < W.heap.size; omega) hr2 hk2 hW2 hF2
 obtain ⟨d0, d1, -, -⟩ := (hr2.done (.bool (decide (sg false (val l) < 0))) (.slice A2 k2 c2)).two
 clear hr
 have HF := Lib.hid hfin
 clear hfin
 go_wp2
 refine bodyPost_ret (v := .agg #[.bool (decide (sg false (val l) < 0)), .slice A2 k2 c2]) ?_ rfl HF.out
 simp [results, Tryz.results113, go_sem, d0, d1]
def absQ (q : Rat) : Rat := if q < 0 then -q else q
theorem num_lt (q : Rat) : q < 0 ↔ q.num < 0 := by rw [Rat.lt_iff]; simp
theorem absQ_num (q : Rat) : (absQ q).num = ((q.num.natAbs : Nat) : Int) ∧ (absQ q).den = q.den := by
 unfold absQ
 split
 ·rename_i h
  have := (num_lt q).1 h
  exact ⟨by rw [Rat.neg_num]; omega, by rw [Rat.neg_den]⟩
 ·rename_i h
  have : ¬ q.num < 0 := fun hh => h ((num_lt q).2 hh)
  exact ⟨by omega, rfl⟩
set_option maxHeartbeats 1000000 in
theorem qabs_any (M Nn Nd : Nat) (HO : WOK M) (hnm : Nn ≤ M) (hdm : Nd ≤ M) (an an' : Bool) (aA aA' : Option Addr) (ak ac ak' ac' : Nat) (q : Rat) (w : World) (ha : QAt Nn Nd w an aA ak ac an' aA' ak' ac' q) :
  Calls Tryz.prog 53 #[.agg #[.bool an, .slice aA ak ac, .bool an', .slice aA' ak' ac']] w (RetQ w (absQ q)) := by
 have T := Lib.hid (fun W (hW : Below w.heap.size w W) => qcanon_any M Nn Nd HO hnm hdm an an' aA aA' ak ac ak' ac' q W (ha.below hW))
 have hlen : (digs q.num.natAbs).length ≤ 10000000000 := HO.len _ (by have := ha.bd.1; omega)
 have Z := Lib.hid (fun (A : Option Addr) (k c : Nat) (W : World) (h : Wat W A k (digs q.num.natAbs)) (hk : k ≤ c) => (by have h1 := zabs_any (decide (q.num < 0)) A k c _ W h hk (by have := h.1; omega); rw [val_digs, ← (absQ_num q).1] at h1; exact h1 : Calls Tryz.prog 113 #[.agg #[.bool (decide (q.num < 0)), .slice A k c]] W (RetZ W (absQ q).num)))
 obtain ⟨en, ed⟩ := absQ_num q
 have HE := Lib.hid en
 have HE2 := Lib.hid ed
 clear ha hlen en ed
 go_enter Tryz.func53, Tryz.ntmps53
 go_wp2_with fail
 obtain ⟨hB0, hB1, hBW, hsz⟩ := pre2 w 42 #[.bool an, .slice aA ak ac, .bool an', .slice aA' ak' ac'] 42 #[.bool false, .slice none 0 0, .bool false, .slice none 0 0]
 generalize (w.alloc (.cells #[.bool an, .slice aA ak ac, .bool an', .slice aA' ak' ac'] 42)).alloc (.cells #[.bool false, .slice none 0 0, .bool false, .slice none 0 0] 42) = W at *
 have HSZ := Lib.hid hsz
 clear hsz
 refine (T.out W hBW).mono ?_
 rintro e w1 ⟨A3, k3, c3, A4, k4, c4, rfl, hk3, hk4, hW3, hW4, hF3, hF4, hb1⟩
 go_wp2_with fail
 have hB1' := (hB1.below hb1 hB1.lt).alloc (.cells #[.bool (decide (q.num < 0)),.slice A3 k3 c3,.bool false,.slice A4 k4 c4] 42)
 have hC := Blk.new w1 42 #[.bool (decide (q.num < 0)),.slice A3 k3 c3,.bool false,.slice A4 k4 c4]
 have hBV : Below w.heap.size w (w1.alloc (.cells #[.bool (decide (q.num < 0)),.slice A3 k3 c3,.bool false,.slice A4 k4 c4] 42)) := (hBW.trans (hb1.mono hBW.size)).alloc (hBW.trans (hb1.mono hBW.size)).size _
 have hW3' := hW3.alloc (.cells #[.bool (decide (q.num < 0)),.slice A3 k3 c3,.bool false,.slice A4 k4 c4] 42)
 have hW4' := hW4.alloc (.cells #[.bool (decide (q.num < 0)),.slice A3 k3 c3,.bool false,.slice A4 k4 c4] 42)
 have hF4' := hF4.keep hW4 (show Below w1.heap.size w1 (w1.alloc (.cells #[.bool (decide (q.num < 0)),.slice A3 k3 c3,.bool false,.slice A4 k4 c4] 42)) from (Below.refl _ _).alloc (Nat.le_refl _) _)
 have hgw : w.heap.size + 1 < w1.heap.size := Nat.lt_of_lt_of_le hB1.lt hb1.size
 have hgw2 : w.heap.size + 1 < W.heap.size := hB1.lt
 have hgc : W.heap.size ≤ (w1.alloc (.cells #[.bool (decide (q.num < 0)),.slice A3 k3 c3,.bool false,.slice A4 k4 c4] 42)).heap.size := by simp; have := hb1.size; omega
 clear hB0 hB1 hW3 hW4 hF3 hF4 T
 generalize w1.alloc (.cells #[.bool (decide (q.num < 0)),.slice A3 k3 c3,.bool false,.slice A4 k4 c4] 42) = V at *
 generalize w1.heap.size = gc at *
 have HS := Lib.hid (show ∀ w', RG4 (w.heap.size + 1) 42 V w' → (w'.cell? ⟨gc, 0, none⟩ = some (.bool (decide (q.num < 0))) ∧ w'.cell? ⟨gc, 1, none⟩ = some (.slice A3 k3 c3) ∧ w'.cell? ⟨gc, 2, none⟩ = some (.bool false) ∧ w'.cell? ⟨gc, 3, none⟩ = some (.slice A4 k4 c4)) ∧ RG4 (w.heap.size + 1) 42 V w' from fun w' hk => ⟨⟨(hk.blk hC (by omega)).cell 0, (hk.blk hC (by omega)).cell 1, (hk.blk hC (by omega)).cell 2, (hk.blk hC (by omega)).cell 3⟩, hk⟩)
 have hr0 := RG4.start hB1'
 have Z1 := Lib.hid (Z.out A3 k3 c3 V.drew hW3'.drew hk3)
 clear Z hC hB1' hW3' hb1
 refine wp_region_held_drew (S := fun w' => (w'.cell? ⟨gc, 0, none⟩ = some (.bool (decide (q.num < 0))) ∧ w'.cell? ⟨gc, 1, none⟩ = some (.slice A3 k3 c3) ∧ w'.cell? ⟨gc, 2, none⟩ = some (.bool false) ∧ w'.cell? ⟨gc, 3, none⟩ = some (.slice A4 k4 c4)) ∧ RG4 (w.heap.size + 1) 42 V w') (by kernel_rfl) (HS.out _ (RG4.drew hr0)) (fun hHeld => ?_)
 refine' tkk 0 rfl (by kernel_rfl) (fun _ _ _ h => h) (.inl ⟨by rfl, ?_⟩) (by assumption) ?_; rotate_left
 ·(intro w hSw; (try dsimp only at hSw); (try simp only [p1, p2, p3]); go_simp; first | done | with_reducible rfl)
 (try simp only [Act.put, p1, p2, p3, p4, p5, p6])
 refine' tkk 1 rfl (by kernel_rfl) (fun _ _ _ h => h) (.inl ⟨by rfl, ?_⟩) (by assumption) ?_; rotate_left
 ·(intro w hSw; (try dsimp only at hSw); (try simp only [p1, p2, p3]); go_simp; first | done | with_reducible rfl)
 (try simp only [Act.put, p1, p2, p3, p4, p5, p6])
 refine' tkk 3 rfl (by kernel_rfl) (fun _ _ _ h => h) (.inl ⟨by rfl, ?_⟩) (by assumption) ?_; rotate_left
 ·(intro w hSw; (try dsimp only at hSw); (try simp only [p1, p2, p3]); go_simp; first | done | with_reducible rfl)
 (try simp only [Act.put, p1, p2, p3, p4, p5, p6])
 refine' tkk 4 rfl (by kernel_rfl) (fun _ _ _ h => h) (.inl ⟨by rfl, ?_⟩) (by assumption) ?_; rotate_left
 ·(intro w hSw; (try dsimp only at hSw); (try simp only [p1, p2, p3]); go_simp; first | done | with_reducible rfl)
 (try simp only [Act.put, p1, p2, p3, p4, p5, p6])
 refine wpAnyH_ready (rs := [2]) (by kernel_rfl) (by simp) ?_
 refine AllReadyH.cons rfl (fun K hK => ?_) AllReadyH.nil
 (try simp only [p1, p2, p3])
 go_simp
 refine Z1.out.mono ?_
 rintro e v1 ⟨A5, k5, c5, rfl, hk5, hW5, hF5, hb5⟩
 have hr1 := hr0.drew.call hb5
 obtain ⟨_, _, _, _, i0, i1, i2, i3, f0, f1, f2, f3⟩ := hr1.four
 (try (go_wp2_with fail))
 refine hK.out _ _ ?k1 (fun hHeld1 => ?n1)
 case k1 => ((try dsimp only); first | exact HS.out _ hr1 | exact HS.out _ (hr1.set _ _ _ _))
 clear hK K
 (try simp only [Act.put, p1, p2, p3, p4, p5, p6])
 refine' tkk 5 rfl (by kernel_rfl) (fun _ _ _ h => h) (.inl ⟨by rfl, ?_⟩) (by assumption) ?_; rotate_left
 ·(intro w hSw; (try dsimp only at hSw); (try simp only [p1, p2, p3]); go_simp; first | done | with_reducible rfl)
 (try simp only [Act.put, p1, p2, p3, p4, p5, p6])
 refine wpAnyH_ready (rs := [6]) (by kernel_rfl) (by simp) ?_
 refine AllReadyH.cons rfl (fun K hK => ?_) AllReadyH.nil
 (try simp only [p1, p2, p3])
 go_simp
 refine hK.out _ _ ?k2 (fun hHeld2 => ?n2)
 case k2 => ((try dsimp only); first | exact HS.out _ hr1 | exact HS.out _ (hr1.set _ _ _ _))
 clear hK K
 (try simp only [Act.put, p1, p2, p3, p4, p5, p6])
 refine wpAnyH_done (by kernel_rfl) ?_ _
 have hgV : w.heap.size + 1 < V.heap.size := by omega
 have hfin := retQ_close (q := absQ q) hBV (by omega) hgw2 (hr1.rs (Nat.le_of_lt hgV)) hk5 hk4 hW5 (by rw [HE2.out]; exact hW4'.drew.below hb5) (hF5.mono (by show W.heap.size ≤ V.heap.size; omega)) ((hF4'.keep hW4' (show Below V.heap.size V v1 from (Below.drew (Below.refl _ _)).trans hb5)))
 obtain ⟨d0, d1, d2, d3, -, -, -, -⟩ := ((hr1.rs (Nat.le_of_lt hgV)).done (.bool (decide ((absQ q).num < 0))) (.slice A5 k5 c5) (.bool false) (.slice A4 k4 c4)).four
 have HF := Lib.hid hfin
 clear hfin
 go_wp2
 refine bodyPost_ret (v := .agg #[.bool (decide ((absQ q).num < 0)), .slice A5 k5 c5, .bool false, .slice A4 k4 c4]) ?_ rfl HF.out
 simp [results, Tryz.results53, go_sem, d0, d1, d2, d3]


end Go.Proofs.YtjajigkacccdgaaGreat
