/-
Share of package stack at a whole quantity. Plain law of merged stacks: rotated curves, one more curve, all of a stack. Plain law of the reference's merge: the next price, the part of a curve. No statement of the seat is proved here; no conditions beyond those of each theorem.
-/
import Derived.Test.YtjajigkacccdgaaGreatTaBE
import Derived.Test.YtjajigkacccdgaaGreatTaBB
namespace Go.Proofs.YtjajigkacccdgaaGreat
set_option linter.unusedVariables false
set_option linter.unusedSimpArgs false
open Go.RowKit
open Wd
attribute [local go_sem ↓] Go.wp_at_zero Go.wp_at_succ

/-- What is left of t when the last j curves have given, and what the next gives. -/
def shRest (xs : List Int) (n : Nat) (t : Int) : Nat → Int
 | 0 => t
 | j + 1 => shRest xs n t j - min (shRest xs n t j) (xs[n - 1 - j]?.getD 0)
def shPart (xs : List Int) (n : Nat) (t : Int) (j : Nat) : Int := min (shRest xs n t j) (xs[n - 1 - j]?.getD 0)
def shRow (xs : List Int) (n : Nat) (t : Int) (ys : List Int) : Nat → List Int
 | 0 => ys
 | j + 1 => (shRow xs n t ys j).set (n - 1 - j) ((shRow xs n t ys j)[n - 1 - j]?.getD 0 + shPart xs n t j)
def shAll (lv : List St.Lv) (n : Nat) (z : Int) : Nat → List Int
 | 0 => List.replicate n 0
 | i + 1 => shRow (lv[i]?.getD Lv0).2.2 n (partI (lvQ lv) z i) (shAll lv n z i) n
theorem shRow_len (xs : List Int) (n : Nat) (t : Int) (ys : List Int) : ∀ j, (shRow xs n t ys j).length = ys.length
 | 0 => rfl
 | j + 1 => by rw [shRow, List.length_set, shRow_len xs n t ys j]
theorem shAll_len (lv : List St.Lv) (n : Nat) (z : Int) : ∀ i, (shAll lv n z i).length = n
 | 0 => by simp [shAll]
 | i + 1 => by rw [shAll, shRow_len, shAll_len lv n z i]
theorem shRest_bd {xs : List Int} {n : Nat} {t : Int} (hx : ∀ y ∈ xs, 0 ≤ y ∧ y ≤ 1000000) (hl : xs.length = n) (h0 : 0 ≤ t) : ∀ j, j ≤ n → 0 ≤ shRest xs n t j ∧ shRest xs n t j ≤ t
 | 0, _ => ⟨h0, Int.le_refl _⟩
 | j + 1, hj => by
  obtain ⟨i1, i2⟩ := shRest_bd hx hl h0 j (by omega)
  have := hx _ (getD_mem (d := 0) (show n - 1 - j < xs.length by omega))
  rw [shRest]
  omega
theorem shPart_bd {xs : List Int} {n : Nat} {t : Int} (hx : ∀ y ∈ xs, 0 ≤ y ∧ y ≤ 1000000) (hl : xs.length = n) (h0 : 0 ≤ t) {j : Nat} (hj : j < n) : 0 ≤ shPart xs n t j ∧ shPart xs n t j ≤ 1000000 := by
 obtain ⟨i1, i2⟩ := shRest_bd hx hl h0 j (by omega)
 have := hx _ (getD_mem (d := 0) (show n - 1 - j < xs.length by omega))
 unfold shPart
 omega
def BdR (c : Int) (ys : List Int) : Prop := ∀ i : Nat, 0 ≤ ys[i]?.getD 0 ∧ ys[i]?.getD 0 ≤ c
theorem shRow_bd {xs : List Int} {n : Nat} {t c : Int} {ys : List Int} (hx : ∀ y ∈ xs, 0 ≤ y ∧ y ≤ 1000000) (hl : xs.length = n) (hy : ys.length = n) (h0 : 0 ≤ t) (hc : BdR c ys) :
  ∀ j, j ≤ n → (∀ i : Nat, 0 ≤ (shRow xs n t ys j)[i]?.getD 0 ∧ (shRow xs n t ys j)[i]?.getD 0 ≤ c + 1000000) ∧ ∀ i : Nat, i < n - j → (shRow xs n t ys j)[i]?.getD 0 = ys[i]?.getD 0
 | 0, _ => ⟨fun i => by have := hc i; simp only [shRow]; omega, fun i _ => rfl⟩
 | j + 1, hj => by
  obtain ⟨i1, i2⟩ := shRow_bd hx hl hy h0 hc j (by omega)
  have hp := shPart_bd hx hl h0 (show j < n by omega)
  have hlen := shRow_len xs n t ys j
  constructor
  ·intro i
   rw [shRow, List.getElem?_set]
   split
   ·rename_i he
    subst he
    have e := i2 (n - 1 - j) (by omega)
    have := hc (n - 1 - j)
    rw [if_pos (by omega)]
    simp only [Option.getD_some]
    omega
   ·exact i1 i
  ·intro i hi
   rw [shRow, List.getElem?_set_ne (by omega)]
   exact i2 i (by omega)
theorem shAll_bd {up : Bool} {n : Nat} {lv : List St.Lv} (hv : VL up n lv) {z : Int} (h0 : ∀ i, i < lv.length → 0 ≤ partI (lvQ lv) z i) : ∀ i, i ≤ lv.length → BdR (1000000 * (i : Int)) (shAll lv n z i)
 | 0, _ => fun i => by simp [shAll, List.getElem?_replicate]; split <;> simp
 | i + 1, hi => fun k => by
  have ih := shAll_bd hv h0 i (by omega)
  have hp := hv.parts _ (getD_mem (d := Lv0) (show i < lv.length by omega))
  have := (shRow_bd hp.2 hp.1 (shAll_len lv n z i) (h0 i (by omega)) ih n (Nat.le_refl _)).1 k
  rw [shAll]
  have e : (1000000 : Int) * ((i + 1 : Nat) : Int) = 1000000 * (i : Int) + 1000000 := by omega
  rw [e]
  exact this
def castR (ys : List Int) : List Rat := ys.map fun y => ((y : Int) : Rat)
theorem castR_get (ys : List Int) (i : Nat) : (castR ys)[i]?.getD 0 = ((ys[i]?.getD 0 : Int) : Rat) := by
 unfold castR
 rw [List.getElem?_map]
 cases ys[i]? <;> rfl
theorem castR_set (ys : List Int) (i : Nat) (y : Int) : castR (ys.set i y) = (castR ys).set i ((y : Int) : Rat) := by
 unfold castR
 rw [List.map_set]
/-- A canonical rational, wherever it lies. -/
def WQ (w : World) (q : Rat) (A : Option Addr) (k c : Nat) (A' : Option Addr) (k' c' : Nat) : Prop := k ≤ c ∧ k' ≤ c' ∧ Wat w A k (digs q.num.natAbs) ∧ Wat w A' k' (denW q.den)
section
variable {w w' : World} {q : Rat} {A A' : Option Addr} {k c k' c' : Nat}
theorem WQ.below (h : WQ w q A k c A' k' c') (hb : Below w.heap.size w w') : WQ w' q A k c A' k' c' := ⟨h.1, h.2.1, h.2.2.1.below hb, h.2.2.2.below hb⟩
theorem WQ.put4 {g o : Nat} {a b : Bool} {B B' : Option Addr} {j d j' d' : Nat} {t : TypeId} {cs : Array Value} (h : WQ w q A k c A' k' c') (hb : Blk w g t cs) (hn : NoInt cs) : WQ (qst w g o a b B B' j d j' d') q A k c A' k' c' :=
 ⟨h.1, h.2.1, h.2.2.1.put4 hb hn, h.2.2.2.put4 hb hn⟩
theorem WQ.at (h : WQ w q A k c A' k' c') (hn : q.num.natAbs < 1152921504606846976) (hd : q.den < 2) : QAt 1152921504606846976 2 w (decide (q.num < 0)) A k c false A' k' c' q :=
 qat_len wok_small (by omega) (by omega) h.1 h.2.1 h.2.2.1 h.2.2.2 hn hd
end
theorem qaddI (x y : Int) (hx : x.natAbs < 1000000000000) (hy : y.natAbs < 1000000000000) {W : World} {B B' B2 B2' : Option Addr} {bk bc bk' bc' j d j' d' : Nat} (h1 : WQ W (x : Rat) B bk bc B' bk' bc') (h2 : WQ W (y : Rat) B2 j d B2' j' d') :
  Calls Tryz.prog 42 #[.agg #[.bool (decide (((x : Int) : Rat).num < 0)), .slice B bk bc, .bool false, .slice B' bk' bc'], .agg #[.bool (decide (((y : Int) : Rat).num < 0)), .slice B2 j d, .bool false, .slice B2' j' d']] W (RetQ W ((x + y : Int) : Rat)) := by
 have := qadd_any 4611686018427387904 1152921504606846976 2 wok_small (by omega) (by omega) _ false _ false B B' B2 B2' bk bc bk' bc' j d j' d' (x : Rat) (y : Rat) W (h1.at (by rw [Rat.num_intCast]; omega) (by rw [Rat.den_intCast]; omega)) (h2.at (by rw [Rat.num_intCast]; omega) (by rw [Rat.den_intCast]; omega))
 rwa [← Rat.intCast_add] at this
theorem qsubI (x y : Int) (hx : x.natAbs < 1000000000000) (hy : y.natAbs < 1000000000000) {W : World} {B B' B2 B2' : Option Addr} {bk bc bk' bc' j d j' d' : Nat} (h1 : WQ W (x : Rat) B bk bc B' bk' bc') (h2 : WQ W (y : Rat) B2 j d B2' j' d') :
  Calls Tryz.prog 55 #[.agg #[.bool (decide (((x : Int) : Rat).num < 0)), .slice B bk bc, .bool false, .slice B' bk' bc'], .agg #[.bool (decide (((y : Int) : Rat).num < 0)), .slice B2 j d, .bool false, .slice B2' j' d']] W (RetQ W ((x - y : Int) : Rat)) := by
 have := qsub_any 4611686018427387904 1152921504606846976 2 wok_small (by omega) (by omega) _ false _ false B B' B2 B2' bk bc bk' bc' j d j' d' (x : Rat) (y : Rat) W (h1.at (by rw [Rat.num_intCast]; omega) (by rw [Rat.den_intCast]; omega)) (h2.at (by rw [Rat.num_intCast]; omega) (by rw [Rat.den_intCast]; omega))
 rwa [← Rat.intCast_sub] at this
theorem qminI (x y : Int) (hx : x.natAbs < 1000000000000) (hy : y.natAbs < 1000000000000) {W : World} {B B' B2 B2' : Option Addr} {bk bc bk' bc' j d j' d' : Nat} (h1 : WQ W (x : Rat) B bk bc B' bk' bc') (h2 : WQ W (y : Rat) B2 j d B2' j' d') :
  Calls Tryz.prog 85 #[.agg #[.bool (decide (((x : Int) : Rat).num < 0)), .slice B bk bc, .bool false, .slice B' bk' bc'], .agg #[.bool (decide (((y : Int) : Rat).num < 0)), .slice B2 j d, .bool false, .slice B2' j' d']] W (RetQ W ((min x y : Int) : Rat)) := by
 have := qless_any 4611686018427387904 1152921504606846976 2 wok_small (by omega) (by omega) (h1.at (by rw [Rat.num_intCast]; omega) (by rw [Rat.den_intCast]; omega)) h2.1 h2.2.1 h2.2.2.1 h2.2.2.2 (by omega) (by omega) (by omega)
 rwa [lessQ_whole] at this

end Go.Proofs.YtjajigkacccdgaaGreat

namespace Go.Proofs.YtjajigkacccdgaaGreat
set_option linter.unusedVariables false
set_option linter.unusedSimpArgs false
open Go.RowKit
open Wd












namespace St
theorem tri_price : ∀ {ls : List (List (Int × Int))} {k : Nat} {p : Int}, (∃ t ∈ tri k ls, t.2.2 = p) ↔ ∃ l ∈ ls, ∃ s ∈ l, s.2 = p
 | [], _, _ => by simp [tri]
 | l :: ls, k, p => by
  have ih := tri_price (ls := ls) (k := k + 1) (p := p)
  constructor
  ·rintro ⟨t, ht, e⟩
   rw [tri, List.mem_append] at ht
   rcases ht with ht | ht
   ·obtain ⟨s, hs, rfl⟩ := List.mem_map.1 ht
    exact ⟨l, List.mem_cons_self .., s, hs, e⟩
   ·obtain ⟨l', hl', r⟩ := ih.1 ⟨t, ht, e⟩
    exact ⟨l', List.mem_cons_of_mem _ hl', r⟩
  ·rintro ⟨l', hl', s, hs, e⟩
   rcases List.mem_cons.1 hl' with rfl | hl'
   ·exact ⟨(k, s.1, s.2), by rw [tri, List.mem_append]; exact Or.inl (List.mem_map.2 ⟨s, hs, rfl⟩), e⟩
   ·obtain ⟨t, ht, e2⟩ := ih.2 ⟨l', hl', s, hs, e⟩
    exact ⟨t, by rw [tri, List.mem_append]; exact Or.inr ht, e2⟩














end St
end Go.Proofs.YtjajigkacccdgaaGreat
namespace Go.Proofs.YtjajigkacccdgaaGreat
set_option linter.unusedVariables false
set_option linter.unusedSimpArgs false
open Go.RowKit
open Wd
namespace St
def ltB (up : Bool) (a b : Int) : Bool := if up then decide (a < b) else decide (b < a)
theorem ltB_iff {up : Bool} {a b : Int} : ltB up a b = true ↔ ltU up a b := by
 unfold ltB ltU
 cases up <;> simp
/-- Whether a price is beyond the last level. -/
def beyB (up : Bool) : Option Int → Int → Bool
 | none, _ => true
 | some v, p => ltB up v p
/-- One more price looked at: the best so far, and whether there is one. -/
def look1 (up : Bool) (last : Option Int) (a : Int × Bool) (p : Int) : Int × Bool :=
 if beyB up last p = false then a else if a.2 = false ∨ ltB up p a.1 = true then (p, true) else a
def lookL (up : Bool) (last : Option Int) (ps : List Int) : Int × Bool := ps.foldl (look1 up last) (0, false)
theorem lookL_snoc (up : Bool) (last : Option Int) (ps : List Int) (p : Int) : lookL up last (ps ++ [p]) = look1 up last (lookL up last ps) p := by simp [lookL]
theorem ltU_trans {up : Bool} {a b c : Int} (h : ltU up a b) (h' : ltU up b c) : ltU up a c := by
 unfold ltU at *
 cases up <;> simp at * <;> omega
theorem ltU_tri {up : Bool} (a b : Int) : ltU up a b ∨ a = b ∨ ltU up b a := by
 unfold ltU
 cases up <;> simp <;> omega
theorem look_spec (up : Bool) (last : Option Int) : ∀ ps : List Int, (lookL up last ps = (0, false) ∧ ∀ p ∈ ps, beyB up last p = false) ∨ ∃ b, lookL up last ps = (b, true) ∧ b ∈ ps ∧ beyB up last b = true ∧ ∀ p ∈ ps, beyB up last p = true → ¬ ltU up p b := by
 have key : ∀ rs ps : List Int, ps = rs.reverse → (lookL up last ps = (0, false) ∧ ∀ p ∈ ps, beyB up last p = false) ∨ ∃ b, lookL up last ps = (b, true) ∧ b ∈ ps ∧ beyB up last b = true ∧ ∀ p ∈ ps, beyB up last p = true → ¬ ltU up p b := by
  intro rs
  induction rs with
  | nil => rintro ps rfl; exact Or.inl ⟨rfl, fun p hp => by simp at hp⟩
  | cons p rs ih =>
   rintro ps rfl
   rw [List.reverse_cons, lookL_snoc]
   rcases ih _ rfl with ⟨h1, h2⟩ | ⟨b, h1, h2, h3, h4⟩
   ·rw [h1]
    by_cases hb : beyB up last p = false
    ·refine Or.inl ⟨by rw [look1, if_pos hb], fun q hq => ?_⟩
     rcases List.mem_append.1 hq with hq | hq
     ·exact h2 q hq
     ·simp at hq; subst hq; exact hb
    ·refine Or.inr ⟨p, by rw [look1, if_neg hb, if_pos (Or.inl rfl)], by simp, by simpa using hb, fun q hq hqb => ?_⟩
     rcases List.mem_append.1 hq with hq | hq
     ·rw [h2 q hq] at hqb; simp at hqb
     ·simp at hq; subst hq; exact ltU_irr
   ·rw [h1]
    refine Or.inr ?_
    by_cases hb : beyB up last p = false
    ·refine ⟨b, by rw [look1, if_pos hb], by simp [h2], h3, fun q hq hqb => ?_⟩
     rcases List.mem_append.1 hq with hq | hq
     ·exact h4 q hq hqb
     ·simp at hq; subst hq; rw [hb] at hqb; simp at hqb
    ·by_cases hl : ltB up p b = true
     ·refine ⟨p, by rw [look1, if_neg hb, if_pos (Or.inr hl)], by simp, by simpa using hb, fun q hq hqb hlt => ?_⟩
      rcases List.mem_append.1 hq with hq | hq
      ·exact h4 q hq hqb (ltU_trans hlt (ltB_iff.1 hl))
      ·simp at hq; subst hq; exact ltU_irr hlt
     ·refine ⟨b, by rw [look1, if_neg hb, if_neg (by simp [hl])], by simp [h2], h3, fun q hq hqb => ?_⟩
      rcases List.mem_append.1 hq with hq | hq
      ·exact h4 q hq hqb
      ·simp at hq; subst hq; exact fun hh => hl (ltB_iff.2 hh)
 exact fun ps => key ps.reverse ps (by simp)
/-- The prices of the curves before curve i and of the first k steps of curve i. -/
def prP (ls : List (List (Int × Int))) (i k : Nat) : List Int := ((ls.take i).flatMap fun l => l.map (·.2)) ++ ((ls[i]?.getD []).take k).map (·.2)
theorem prP_snoc {ls : List (List (Int × Int))} {i k : Nat} (hk : k < (ls[i]?.getD []).length) : prP ls i (k + 1) = prP ls i k ++ [((ls[i]?.getD [])[k]?.getD (0, 0)).2] := by
 unfold prP
 have e : ((ls[i]?.getD []).take (k + 1)) = (ls[i]?.getD []).take k ++ [(ls[i]?.getD [])[k]] := by rw [List.take_add_one, List.getElem?_eq_getElem hk]; rfl
 rw [e, List.map_append, List.getElem?_eq_getElem hk, List.append_assoc]
 rfl
theorem prP_next {ls : List (List (Int × Int))} {i : Nat} (hi : i < ls.length) : prP ls i (ls[i]?.getD []).length = prP ls (i + 1) 0 := by
 unfold prP
 have e : ls.take (i + 1) = ls.take i ++ [ls[i]] := by rw [List.take_add_one, List.getElem?_eq_getElem hi]; rfl
 rw [List.take_length, List.take_zero, List.map_nil, List.append_nil, e, List.flatMap_append, List.getElem?_eq_getElem hi]
 simp
theorem prP_zero (ls : List (List (Int × Int))) : prP ls 0 0 = [] := by simp [prP]
theorem prP_all {ls : List (List (Int × Int))} {p : Int} : p ∈ prP ls ls.length 0 ↔ ∃ l ∈ ls, ∃ s ∈ l, s.2 = p := by
 unfold prP
 simp [List.mem_flatMap]
/-- The price of the last of the first k levels. -/
def lastP (lv : List Lv) : Nat → Option Int
 | 0 => none
 | k + 1 => some (lv[k]?.getD (0, 0, [])).1
theorem lv_sorted {up : Bool} {lv : List Lv} (h : (lv.map (·.1)).Pairwise (ltU up)) {i j : Nat} (hij : i < j) (hj : j < lv.length) : ltU up (lv[i]?.getD (0, 0, [])).1 (lv[j]?.getD (0, 0, [])).1 := by
 have := List.pairwise_iff_getElem.1 h i j (by simpa using (show i < lv.length by omega)) (by simpa using hj) hij
 rw [List.getElem_map, List.getElem_map] at this
 rw [List.getElem?_eq_getElem (show i < lv.length by omega), List.getElem?_eq_getElem hj]
 exact this
/-- The next price that the reference finds is that of the next level. -/
theorem look_next {up : Bool} {n : Nat} {ls : List (List (Int × Int))} {lv : List Lv} (h : IsLv up n (tri 0 ls) lv) {k : Nat} (hk : k ≤ lv.length) : lookL up (lastP lv k) (prP ls ls.length 0) = if k < lv.length then ((lv[k]?.getD (0, 0, [])).1, true) else (0, false) := by
 have hmem : ∀ p, p ∈ prP ls ls.length 0 ↔ ∃ j, j < lv.length ∧ (lv[j]?.getD (0, 0, [])).1 = p := fun p => by
  rw [prP_all, ← tri_price (k := 0), ← h.2.1 p]
  constructor
  ·intro hp
   obtain ⟨x, hx, rfl⟩ := List.mem_map.1 hp
   obtain ⟨j, hj, rfl⟩ := List.mem_iff_getElem.1 hx
   exact ⟨j, hj, by rw [List.getElem?_eq_getElem hj]; rfl⟩
  ·rintro ⟨j, hj, rfl⟩
   rw [List.getElem?_eq_getElem hj]
   exact List.mem_map.2 ⟨_, List.getElem_mem hj, rfl⟩
 have hbey : ∀ j, j < lv.length → (beyB up (lastP lv k) (lv[j]?.getD (0, 0, [])).1 = true ↔ k ≤ j) := fun j hj => by
  cases k with
  | zero => simp [lastP, beyB]
  | succ k =>
   rw [lastP, beyB, ltB_iff]
   constructor
   ·intro hlt
    rcases Nat.lt_trichotomy k j with h1 | h1 | h1
    ·omega
    ·subst h1; exact absurd hlt ltU_irr
    ·exact absurd (lv_sorted h.1 h1 (by omega)) (ltU_asym hlt)
   ·intro hle
    exact lv_sorted h.1 (by omega) hj
 rcases look_spec up (lastP lv k) (prP ls ls.length 0) with ⟨h1, h2⟩ | ⟨b, h1, h2, h3, h4⟩
 ·rw [h1]
  split
  ·rename_i hlt
   have := h2 _ ((hmem _).2 ⟨k, hlt, rfl⟩)
   rw [(hbey k hlt).2 (Nat.le_refl _)] at this
   simp at this
  ·rfl
 ·obtain ⟨j, hj, rfl⟩ := (hmem b).1 h2
  have hkj := (hbey j hj).1 h3
  rw [h1, if_pos (by omega)]
  rcases Nat.lt_or_ge k j with hlt | hge
  ·exact absurd (lv_sorted h.1 hlt hj) (h4 _ ((hmem _).2 ⟨k, by omega, rfl⟩) ((hbey k (by omega)).2 (Nat.le_refl _)))
  ·obtain rfl : j = k := by omega
   rfl
/-- What the first k steps of a curve hold at a price, as the reference reads it. -/
def ptK (l : List (Int × Int)) (p : Int) : Nat → Int
 | 0 => 0
 | k + 1 => if (l[k]?.getD (0, 0)).2 = p then (l[k]?.getD (0, 0)).1 else ptK l p k
theorem atP_snoc (l : List (Int × Int)) (s : Int × Int) (p : Int) : atP (l ++ [s]) p = atP l p + if s.2 = p then s.1 else 0 := by
 induction l with
 | nil => simp [atP]
 | cons a l ih => rw [List.cons_append, atP, atP, ih]; omega
theorem ptK_at {up : Bool} {l : List (Int × Int)} (h : (l.map (·.2)).Pairwise (ltU up)) (p : Int) : ∀ k, k ≤ l.length → ptK l p k = atP (l.take k) p
 | 0, _ => rfl
 | k + 1, hk => by
  have hkl : k < l.length := by omega
  have e : l.take (k + 1) = l.take k ++ [l[k]] := by rw [List.take_add_one, List.getElem?_eq_getElem hkl]; rfl
  rw [ptK, ptK_at h p k (by omega), e, atP_snoc, List.getElem?_eq_getElem hkl]
  simp only [Option.getD_some]
  split
  ·rename_i hp
   have : atP (l.take k) p = 0 := atP_none fun s hs hsp => by
    obtain ⟨j, hj, rfl⟩ := List.mem_iff_getElem.1 hs
    rw [List.length_take] at hj
    have hj2 : j < k := by omega
    have := List.pairwise_iff_getElem.1 h j k (by simp; omega) (by simpa using hkl) hj2
    rw [List.getElem_map, List.getElem_map] at this
    rw [List.getElem_take] at hsp
    rw [hsp, hp] at this
    exact ltU_irr this
   omega
  ·omega
theorem ptK_all {up : Bool} {l : List (Int × Int)} (h : (l.map (·.2)).Pairwise (ltU up)) (p : Int) : ptK l p l.length = atP l p := by rw [ptK_at h p _ (Nat.le_refl _), List.take_length]
/-- The parts of the first i curves at a price, and their sum. -/
def ptsK (ls : List (List (Int × Int))) (p : Int) (i : Nat) : List Int := (List.range i).map fun j => atP (ls[j]?.getD []) p
theorem ptsK_snoc (ls : List (List (Int × Int))) (p : Int) (i : Nat) : ptsK ls p (i + 1) = ptsK ls p i ++ [atP (ls[i]?.getD []) p] := by simp [ptsK, List.range_succ]
theorem ptsK_all (ls : List (List (Int × Int))) (p : Int) : parts ls.length (tri 0 ls) p = ptsK ls p ls.length := by
 unfold parts ptsK
 refine List.map_congr_left fun j _ => ?_
 rw [part_tri]
 simp

end St
end Go.Proofs.YtjajigkacccdgaaGreat
