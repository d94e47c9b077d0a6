/-
Plain law of the clearing price: there is one; it is the nearest to 0; mirrored and enlarged markets. No statement of the seat is proved here; no conditions beyond those of each theorem.
-/
import Derived.Test.YtnjpojpfiijlfaaGreatY3
namespace Go.Proofs.YtnjpojpfiijlfaaGreat
set_option linter.unusedVariables false
set_option linter.unusedSimpArgs false
open Go.RowKit
open Wd

/-- All prices lie between the bounds. -/
def PrB (ls : List (List (Int × Int))) : Prop := ∀ l ∈ ls, ∀ s ∈ l, -1000000 ≤ s.2 ∧ s.2 ≤ 1000000
theorem PrB.of {up : Bool} {ls : List (List (Int × Int))} (h : ∀ l ∈ ls, chk up l = 0) : PrB ls := fun l hl s hs => by
  have := (chk_ok (h l hl)).2.2.2 s hs
  unfold Bad at this
  omega
theorem sw_zero {f : Int × Int → Int} {ls : List (List (Int × Int))} (h : ∀ l ∈ ls, ∀ s ∈ l, f s = 0) : sw f ls = 0 := by
  rw [sw_eq (g := fun _ => 0) h]
  unfold sw
  refine sumI_zero fun x hx => ?_
  obtain ⟨l, _, rfl⟩ := List.mem_map.1 hx
  refine sumI_zero fun y hy => ?_
  obtain ⟨s, _, rfl⟩ := List.mem_map.1 hy
  rfl
theorem sw_pos {f : Int × Int → Int} {ls : List (List (Int × Int))} (h : ∀ l ∈ ls, ∀ s ∈ l, 0 ≤ f s) : 0 ≤ sw f ls := by
  have := sw_le (f := fun _ => 0) h
  rw [sw_zero (f := fun _ => 0) fun _ _ _ _ => rfl] at this
  exact this
theorem ws_pos {ls : List (List (Int × Int))} (hp : Pos ls) (side : Int) (q : Rat) : 0 ≤ wsL side q ls ∧ 0 ≤ wsM side q ls :=
  ⟨sw_pos fun l hl s hs => by have := hp l hl s hs; split <;> omega, sw_pos fun l hl s hs => by have := hp l hl s hs; split <;> omega⟩
theorem HiB.top {os bs : List (List (Int × Int))} (ho : Pos os) (hb : PrB bs) : HiB os bs ((1000000 : Int) : Rat) := by
  have e : wsL 1 ((1000000 : Int) : Rat) bs = 0 := sw_zero fun l hl s hs => by
    simp only [cmpQ_gt, Rat.intCast_lt_intCast]
    rw [if_neg]
    have := hb l hl s hs
    omega
  unfold HiB
  rw [e]
  exact (ws_pos ho _ _).2
theorem LoB.bottom {os bs : List (List (Int × Int))} (ho : PrB os) (hb : Pos bs) : LoB os bs ((-1000000 : Int) : Rat) := by
  have e : wsL (-1) ((-1000000 : Int) : Rat) os = 0 := sw_zero fun l hl s hs => by
    simp only [cmpQ_lt, Rat.intCast_lt_intCast]
    rw [if_neg]
    have := ho l hl s hs
    omega
  unfold LoB
  rw [e]
  exact (ws_pos hb _ _).2
theorem LoB.step {os bs : List (List (Int × Int))} {n : Int} (h : ¬ HiB os bs ((n : Int) : Rat)) : LoB os bs ((n + 1 : Int) : Rat) := by
  have e1 : wsM 1 ((n + 1 : Int) : Rat) bs = wsL 1 ((n : Int) : Rat) bs := sw_eq fun l hl s hs => by
    simp only [cmpQ_gt, cmpQ_zero, Rat.intCast_lt_intCast, Rat.intCast_inj]
    have : (n + 1 < s.2 ∨ s.2 = n + 1) ↔ n < s.2 := by omega
    simp only [this]
  have e2 : wsL (-1) ((n + 1 : Int) : Rat) os = wsM (-1) ((n : Int) : Rat) os := sw_eq fun l hl s hs => by
    simp only [cmpQ_lt, cmpQ_zero, Rat.intCast_lt_intCast, Rat.intCast_inj]
    have : (s.2 < n + 1) ↔ (s.2 < n ∨ s.2 = n) := by omega
    simp only [this]
  unfold HiB at h
  unfold LoB
  rw [e1, e2]
  omega
/-- Some price clears. -/
theorem bal_some {os bs : List (List (Int × Int))} (ho : Pos os) (hb : Pos bs) (ho' : PrB os) (hb' : PrB bs) : ∃ n : Int, balB os bs ((n : Int) : Rat) = true := by
  have key : ∀ k : Nat, (∃ n : Int, balB os bs ((n : Int) : Rat) = true) ∨ LoB os bs ((-1000000 + k : Int) : Rat) := by
    intro k
    induction k with
    | zero => exact Or.inr (LoB.bottom ho' hb)
    | succ k ih =>
      rcases ih with ih | ih
      · exact Or.inl ih
      · by_cases h : HiB os bs ((-1000000 + k : Int) : Rat)
        · exact Or.inl ⟨_, balB_iff.2 ⟨ih, h⟩⟩
        · have := LoB.step h
          have e : (-1000000 + (k : Int) + 1) = -1000000 + ((k + 1 : Nat) : Int) := by omega
          rw [e] at this
          exact Or.inr this
  rcases key 2000000 with h | h
  · exact h
  · exact ⟨1000000, balB_iff.2 ⟨h, HiB.top ho hb'⟩⟩
theorem absI_eq (p : Int) : absI p = p ∨ absI p = -p := by unfold absI; split <;> simp
theorem absI_or (p : Int) : (0 ≤ p ∧ absI p = p) ∨ (p < 0 ∧ absI p = -p) := by unfold absI; split <;> omega
theorem absI_neg (p : Int) : absI (-p) = absI p := by unfold absI; split <;> split <;> omega
theorem absI_bd (p : Int) : 0 ≤ absI p ∧ p ≤ absI p ∧ -p ≤ absI p := by unfold absI; split <;> omega
/-- The clearing price clears, and no price that clears is nearer to 0. -/
theorem PrZ.near {os bs : List (List (Int × Int))} {p : Int} (h : PrZ os bs p) (ho : Pos os) (hb : Pos bs) (ho' : PrB os) (hb' : PrB bs) : balB os bs ((p : Int) : Rat) = true ∧ ∀ q : Rat, balB os bs q = true → ((absI p : Int) : Rat) ≤ q ∨ ((absI p : Int) : Rat) ≤ -q := by
  rcases h with ⟨h1, h2, h3, h4⟩ | ⟨h1, h2⟩
  · refine ⟨h2, fun q hq => ?_⟩
    obtain ⟨d, hd, hx⟩ := bal_near ho hb hq
    have hle : absI p ≤ d := by
      by_cases h9 : d < absI p
      · obtain ⟨e1, e2⟩ := h3 d hd h9
        rw [e1, e2] at hx
        simp at hx
      · omega
    have hle' : ((absI p : Int) : Rat) ≤ ((d : Int) : Rat) := Rat.intCast_le_intCast.2 hle
    rcases hx with ⟨_, hx⟩ | ⟨_, hx⟩
    · exact Or.inl (Rat.le_trans hle' hx)
    · exact Or.inr (Rat.le_trans hle' hx)
  · obtain ⟨n, hn⟩ := bal_some ho hb ho' hb'
    obtain ⟨d, hd, hx⟩ := bal_near ho hb hn
    obtain ⟨e1, e2⟩ := h2 d hd
    rw [e1, e2] at hx
    simp at hx
theorem PrZ.nearI {os bs : List (List (Int × Int))} {p : Int} (h : PrZ os bs p) (ho : Pos os) (hb : Pos bs) (ho' : PrB os) (hb' : PrB bs) : balB os bs ((p : Int) : Rat) = true ∧ ∀ q : Int, balB os bs ((q : Int) : Rat) = true → absI p ≤ absI q := by
  obtain ⟨h1, h2⟩ := h.near ho hb ho' hb'
  refine ⟨h1, fun q hq => ?_⟩
  have h3 := absI_bd q
  rcases h2 _ hq with h | h
  · have := Rat.intCast_le_intCast.1 h
    omega
  · rw [← Rat.intCast_neg] at h
    have := Rat.intCast_le_intCast.1 h
    omega
/-- A market whose two halves of clearing have moved up has no lower price. -/
theorem price_up {os bs os' bs' : List (List (Int × Int))} {x y : Int} (hx : PrZ os bs x) (hy : PrZ os' bs' y) (ho : Pos os) (hb : Pos bs) (ho' : PrB os) (hb' : PrB bs) (go : Pos os') (gb : Pos bs') (go' : PrB os') (gb' : PrB bs')
    (hl : ∀ q, LoB os bs q → LoB os' bs' q) (hh : ∀ q, HiB os' bs' q → HiB os bs q) : x ≤ y := by
  obtain ⟨a1, a2⟩ := hx.nearI ho hb ho' hb'
  obtain ⟨b1, b2⟩ := hy.nearI go gb go' gb'
  by_cases h : x ≤ y
  · exact h
  · have hyx : ((y : Int) : Rat) ≤ ((x : Int) : Rat) := Rat.intCast_le_intCast.2 (by omega)
    obtain ⟨c1, c2⟩ := balB_iff.1 a1
    obtain ⟨d1, d2⟩ := balB_iff.1 b1
    have e1 : balB os bs ((y : Int) : Rat) = true := balB_iff.2 ⟨c1.down ho hb hyx, hh _ d2⟩
    have e2 : balB os' bs' ((x : Int) : Rat) = true := balB_iff.2 ⟨hl _ c1, d2.up go gb hyx⟩
    have f1 := a2 _ e1
    have f2 := b2 _ e2
    have g : x = -y ∧ y < 0 ∧ absI x = x := by
      have k1 := absI_or x
      have k2 := absI_or y
      omega
    have e3 : balB os bs ((0 : Int) : Rat) = true := bal_mid ho hb e1 a1 (Rat.intCast_le_intCast.2 (by omega)) (Rat.intCast_le_intCast.2 (by omega))
    have f3 := a2 _ e3
    have k1 := absI_or x
    have k2 := absI_or 0
    omega

/-- Prices negated. -/
def negL (l : List (Int × Int)) : List (Int × Int) := l.map fun s => (s.1, -s.2)
def negs (ls : List (List (Int × Int))) : List (List (Int × Int)) := ls.map negL
theorem sw_neg (f : Int × Int → Int) (ls : List (List (Int × Int))) : sw f (negs ls) = sw (fun s => f (s.1, -s.2)) ls := by
  unfold sw negs negL
  rw [List.map_map]
  congr 1
  refine List.map_congr_left fun l _ => ?_
  simp only [Function.comp, List.map_map]
  rfl
theorem ws_neg (q : Rat) (ls : List (List (Int × Int))) : (wsL (-1) (-q) (negs ls) = wsL 1 q ls ∧ wsM (-1) (-q) (negs ls) = wsM 1 q ls) ∧ wsL 1 (-q) (negs ls) = wsL (-1) q ls ∧ wsM 1 (-q) (negs ls) = wsM (-1) q ls := by
  simp only [wsL_sw, wsM_sw, sw_neg]
  refine ⟨⟨sw_eq fun l hl s hs => ?_, sw_eq fun l hl s hs => ?_⟩, sw_eq fun l hl s hs => ?_, sw_eq fun l hl s hs => ?_⟩
  all_goals
    simp only [fL, fM, cmpQ_lt, cmpQ_gt, cmpQ_zero, Rat.intCast_neg]
    have h1 : (-((s.2 : Int) : Rat) < -q) ↔ q < ((s.2 : Int) : Rat) := by grind
    have h2 : (-((s.2 : Int) : Rat) = -q) ↔ ((s.2 : Int) : Rat) = q := by grind
    have h3 : (-q < -((s.2 : Int) : Rat)) ↔ ((s.2 : Int) : Rat) < q := by grind
    simp only [h1, h2, h3]
theorem bal_neg {os bs : List (List (Int × Int))} (q : Rat) : balB (negs bs) (negs os) (-q) = balB os bs q := by
  obtain ⟨⟨a1, a2⟩, a3, a4⟩ := ws_neg q os
  obtain ⟨⟨b1, b2⟩, b3, b4⟩ := ws_neg q bs
  unfold balB
  rw [b1, a4, a3, b2, Bool.and_comm]
theorem mem_negs {ls : List (List (Int × Int))} {P : Int × Int → Prop} (h : ∀ l ∈ ls, ∀ s ∈ l, P (s.1, -s.2)) : ∀ l ∈ negs ls, ∀ s ∈ l, P s := fun l hl s hs => by
  obtain ⟨l', hl', rfl⟩ := List.mem_map.1 hl
  obtain ⟨s', hs', rfl⟩ := List.mem_map.1 hs
  exact h l' hl' s' hs'
theorem Pos.neg {ls : List (List (Int × Int))} (h : Pos ls) : Pos (negs ls) := mem_negs (P := fun s => 0 ≤ s.1) h
theorem PrB.neg {ls : List (List (Int × Int))} (h : PrB ls) : PrB (negs ls) := mem_negs (P := fun s => -1000000 ≤ s.2 ∧ s.2 ≤ 1000000) fun l hl s hs => by
  have := h l hl s hs
  simp only
  omega
/-- The price of the mirrored market. -/
theorem price_neg {os bs : List (List (Int × Int))} {x y : Int} (hx : PrZ os bs x) (hy : PrZ (negs bs) (negs os) y) (ho : Pos os) (hb : Pos bs) (ho' : PrB os) (hb' : PrB bs) : y = -x := by
  obtain ⟨a1, a2⟩ := hx.nearI ho hb ho' hb'
  obtain ⟨b1, b2⟩ := hy.nearI hb.neg ho.neg hb'.neg ho'.neg
  have c1 : balB os bs ((-y : Int) : Rat) = true := by
    rw [← bal_neg, ← Rat.intCast_neg, Int.neg_neg]
    exact b1
  have c2 : balB (negs bs) (negs os) ((-x : Int) : Rat) = true := by
    rw [Rat.intCast_neg, bal_neg]
    exact a1
  have f1 := a2 _ c1
  have f2 := b2 _ c2
  by_cases h : y = -x
  · exact h
  · have hxy : x = y ∧ x ≠ 0 := by
      have k1 := absI_or x
      have k2 := absI_or y
      rw [absI_neg] at f1 f2
      omega
    obtain ⟨rfl, h0⟩ := hxy
    have e3 : balB os bs ((0 : Int) : Rat) = true := by
      by_cases hp : 0 ≤ x
      · exact bal_mid ho hb c1 a1 (Rat.intCast_le_intCast.2 (by omega)) (Rat.intCast_le_intCast.2 (by omega))
      · exact bal_mid ho hb a1 c1 (Rat.intCast_le_intCast.2 (by omega)) (Rat.intCast_le_intCast.2 (by omega))
    have f3 := a2 _ e3
    have k1 := absI_or x
    have k2 := absI_or 0
    omega

end Go.Proofs.YtnjpojpfiijlfaaGreat
