/-
Plain law of welfare: what is traded lies between the bounds of the price; the welfare is the surplus at the price; more curves lower neither welfare. Plain law of costs over rationals: no quantity costs less than its price less the surplus, and just the quantities between the bounds cost that. Plain law of the reference's merge: the next price, the part of a curve. No statement of the seat is proved here; no conditions beyond those of each theorem.
-/
import Derived.Test.YtjajigkacccdgaaGreatTdBQ
import Derived.Test.YtjajigkacccdgaaGreatTdBG
import Derived.Test.YtjajigkacccdgaaGreatTdBO
namespace Go.Proofs.YtjajigkacccdgaaGreat
set_option linter.unusedVariables false
set_option linter.unusedSimpArgs false
open Go.RowKit
open Wd

/-- The cost of z units of a sorted list of steps. -/
def cz : List (Int × Int) → Int → Int
 | [], _ => 0
 | s :: l, z => min z s.1 * s.2 + cz l (z - min z s.1)
theorem restI_hd (s : Int × Int) (l : List (Int × Int)) (z : Int) : ∀ k, restI (s :: l) z (k + 1) = restI l (z - min z s.1) k
 | 0 => rfl
 | k + 1 => by
  rw [restI, restI_hd s l z k, restI]
  rfl
theorem costI_hd (s : Int × Int) (l : List (Int × Int)) (z : Int) : ∀ k, costI (s :: l) z (k + 1) = min z s.1 * s.2 + costI l (z - min z s.1) k
 | 0 => by simp [costI, partI, restI]
 | k + 1 => by
  rw [costI, costI_hd s l z k, costI, partI, restI_hd, partI]
  simp only [List.getElem?_cons_succ]
  omega
theorem costI_cz : ∀ (l : List (Int × Int)) (z : Int), costI l z l.length = cz l z
 | [], _ => rfl
 | s :: l, z => by rw [List.length_cons, costI_hd, costI_cz l, cz]
/-- Quantities below a price, up to it, and the surplus of those below. -/
def aL (p : Int) (l : List (Int × Int)) : Int := sumI (l.map fun s => if s.2 < p then s.1 else 0)
def aM (p : Int) (l : List (Int × Int)) : Int := sumI (l.map fun s => if s.2 ≤ p then s.1 else 0)
def aG (p : Int) (l : List (Int × Int)) : Int := sumI (l.map fun s => if s.2 < p then s.1 * (p - s.2) else 0)
def aT (l : List (Int × Int)) : Int := sumI (l.map fun s => s.1)
theorem aL_cons (p : Int) (s : Int × Int) (l : List (Int × Int)) : aL p (s :: l) = (if s.2 < p then s.1 else 0) + aL p l := rfl
theorem aM_cons (p : Int) (s : Int × Int) (l : List (Int × Int)) : aM p (s :: l) = (if s.2 ≤ p then s.1 else 0) + aM p l := rfl
theorem aG_cons (p : Int) (s : Int × Int) (l : List (Int × Int)) : aG p (s :: l) = (if s.2 < p then s.1 * (p - s.2) else 0) + aG p l := rfl
theorem aT_cons (s : Int × Int) (l : List (Int × Int)) : aT (s :: l) = s.1 + aT l := rfl
theorem aG_pos {p : Int} : ∀ {l : List (Int × Int)}, (∀ s ∈ l, 0 ≤ s.1) → 0 ≤ aG p l
 | [], _ => Int.le_refl _
 | s :: l, h => by
  have h1 := aG_pos (p := p) fun t ht => h t (List.mem_cons_of_mem _ ht)
  have h2 := h s (List.mem_cons_self ..)
  rw [aG_cons]
  split
  ·have := Int.mul_nonneg h2 (show 0 ≤ p - s.2 by omega)
   omega
  ·omega
theorem cz_zero : ∀ {l : List (Int × Int)}, (∀ s ∈ l, 0 ≤ s.1) → cz l 0 = 0
 | [], _ => rfl
 | s :: l, h => by
  have h2 := h s (List.mem_cons_self ..)
  have e : min 0 s.1 = 0 := by omega
  rw [cz, e, Int.sub_zero, cz_zero fun t ht => h t (List.mem_cons_of_mem _ ht)]
  omega
/-- No quantity costs less than at its price less the surplus. -/
theorem cz_ge (p : Int) : ∀ {l : List (Int × Int)} {z : Int}, (∀ s ∈ l, 0 ≤ s.1) → 0 ≤ z → z ≤ aT l → p * z - aG p l ≤ cz l z
 | [], z, _, h0, h1 => by
  have : z = 0 := by simp only [aT, List.map_nil, sumI] at h1; omega
  subst this
  simp [cz, aG, sumI]
 | s :: l, z, h, h0, h1 => by
  have h2 := h s (List.mem_cons_self ..)
  have hm : 0 ≤ min z s.1 ∧ min z s.1 ≤ s.1 ∧ min z s.1 ≤ z ∧ (min z s.1 = z ∨ min z s.1 = s.1) := by omega
  have h3 : 0 ≤ aT l := by
   clear h1
   have : ∀ l : List (Int × Int), (∀ s ∈ l, 0 ≤ s.1) → 0 ≤ aT l := by
    intro l
    induction l with
    | nil => intro _; exact Int.le_refl _
    | cons a l ih =>
     intro hl
     have := ih fun t ht => hl t (List.mem_cons_of_mem _ ht)
     have := hl a (List.mem_cons_self ..)
     rw [aT_cons]
     omega
   exact this l fun t ht => h t (List.mem_cons_of_mem _ ht)
  rw [aT_cons] at h1
  have ih := cz_ge p (l := l) (z := z - min z s.1) (fun t ht => h t (List.mem_cons_of_mem _ ht)) (by omega) (by omega)
  rw [cz, aG_cons]
  generalize min z s.1 = m at *
  have e : p * (z - m) = p * z - p * m := Int.mul_sub ..
  rw [e] at ih
  split
  ·have k1 : 0 ≤ (s.1 - m) * (p - s.2) := Int.mul_nonneg (by omega) (by omega)
   have k2 : (s.1 - m) * (p - s.2) = s.1 * (p - s.2) - (p * m - m * s.2) := by grind
   omega
  ·have k1 : 0 ≤ m * (s.2 - p) := Int.mul_nonneg (by omega) (by omega)
   have k2 : m * (s.2 - p) = m * s.2 - p * m := by grind
   omega
theorem above_zero {p : Int} : ∀ {l : List (Int × Int)}, (∀ s ∈ l, p < s.2) → aL p l = 0 ∧ aM p l = 0 ∧ aG p l = 0
 | [], _ => ⟨rfl, rfl, rfl⟩
 | s :: l, h => by
  obtain ⟨h1, h2, h3⟩ := above_zero (l := l) fun t ht => h t (List.mem_cons_of_mem _ ht)
  have := h s (List.mem_cons_self ..)
  rw [aL_cons, aM_cons, aG_cons, h1, h2, h3, if_neg (by omega), if_neg (by omega), if_neg (by omega)]
  exact ⟨rfl, rfl, rfl⟩
/-- Between the bounds at a price a quantity costs its price less the surplus. -/
theorem cz_eq (p : Int) : ∀ {l : List (Int × Int)} {z : Int}, (l.map (·.2)).Pairwise (· < ·) → (∀ s ∈ l, 0 ≤ s.1) → aL p l ≤ z → z ≤ aM p l → cz l z = p * z - aG p l
 | [], z, _, _, h0, h1 => by
  have : z = 0 := by simp only [aL, aM, List.map_nil, sumI] at h0 h1; omega
  subst this
  simp [cz, aG, sumI]
 | s :: l, z, hs, h, h0, h1 => by
  have h2 := h s (List.mem_cons_self ..)
  rw [List.map_cons, List.pairwise_cons] at hs
  have hab : ∀ t ∈ l, s.2 < t.2 := fun t ht => hs.1 _ (List.mem_map.2 ⟨t, ht, rfl⟩)
  have hl := fun t ht => h t (List.mem_cons_of_mem _ ht)
  rw [aL_cons] at h0
  rw [aM_cons] at h1
  rw [cz, aG_cons]
  by_cases c1 : s.2 < p
  ·rw [if_pos c1] at h0 ⊢
   rw [if_pos (by omega)] at h1
   have hA : 0 ≤ aL p l := by
    have : ∀ l : List (Int × Int), (∀ s ∈ l, 0 ≤ s.1) → 0 ≤ aL p l := by
     intro l
     induction l with
     | nil => intro _; exact Int.le_refl _
     | cons a l ih =>
      intro hl
      have := ih fun t ht => hl t (List.mem_cons_of_mem _ ht)
      have := hl a (List.mem_cons_self ..)
      rw [aL_cons]
      split <;> omega
    exact this l hl
   have e : min z s.1 = s.1 := by omega
   rw [e, cz_eq p hs.2 hl (by omega) (by omega)]
   grind
  ·rw [if_neg c1] at h0 ⊢
   by_cases c2 : s.2 = p
   ·rw [if_pos (by omega)] at h1
    obtain ⟨a1, a2, a3⟩ := above_zero (p := p) (l := l) fun t ht => by have := hab t ht; omega
    have e : min z s.1 = z := by omega
    rw [e, Int.sub_self, cz_zero hl, a3, c2]
    grind
   ·rw [if_neg (by omega)] at h1
    obtain ⟨a1, a2, a3⟩ := above_zero (p := p) (l := l) fun t ht => by have := hab t ht; omega
    have e : z = 0 := by omega
    subst e
    have e : min 0 s.1 = 0 := by omega
    rw [e, Int.sub_self, cz_zero hl, a3]
    grind
theorem aL_le_aM (p : Int) : ∀ {l : List (Int × Int)}, (∀ s ∈ l, 0 ≤ s.1) → 0 ≤ aL p l ∧ aL p l ≤ aM p l ∧ aM p l ≤ aT l
 | [], _ => ⟨Int.le_refl _, Int.le_refl _, Int.le_refl _⟩
 | s :: l, h => by
  have h1 := aL_le_aM p fun t ht => h t (List.mem_cons_of_mem _ ht)
  have h2 := h s (List.mem_cons_self ..)
  rw [aL_cons, aM_cons, aT_cons]
  by_cases c1 : s.2 < p
  ·rw [if_pos c1, if_pos (by omega)]; omega
  ·rw [if_neg c1]; split <;> omega
/-- The price of a unit of a stack against a price. -/
theorem uP_side (p : Int) : ∀ {S : List St.Lv} {u : Int}, ((lvQ S).map (·.2)).Pairwise (· < ·) → (∀ s ∈ lvQ S, 0 ≤ s.1) → 0 ≤ u →
  (u < aL p (lvQ S) → ∃ a, uP S u = some a ∧ a < p) ∧ (aL p (lvQ S) ≤ u → u < aM p (lvQ S) → uP S u = some p) ∧ (aM p (lvQ S) ≤ u → ∀ a, uP S u = some a → p < a)
 | [], u, _, _, h0 => ⟨fun h => by simp only [lvQ, List.map_nil, aL, sumI] at h; omega, fun _ h => by simp only [lvQ, List.map_nil, aM, sumI] at h; omega, fun _ a h => by simp [uP] at h⟩
 | x :: S, u, hs, h, h0 => by
  have e : lvQ (x :: S) = (x.2.1, x.1) :: lvQ S := rfl
  rw [e] at hs h ⊢
  rw [List.map_cons, List.pairwise_cons] at hs
  have hab : ∀ t ∈ lvQ S, x.1 < t.2 := fun t ht => hs.1 _ (List.mem_map.2 ⟨t, ht, rfl⟩)
  have hl := fun t ht => h t (List.mem_cons_of_mem _ ht)
  have hx : 0 ≤ x.2.1 := h (x.2.1, x.1) (List.mem_cons_self ..)
  rw [aL_cons, aM_cons, uP]
  simp only
  have hb := aL_le_aM p hl
  by_cases c0 : u < x.2.1
  ·rw [if_pos c0]
   by_cases c1 : x.1 < p
   ·rw [if_pos c1, if_pos (by omega)]
    exact ⟨fun _ => ⟨_, rfl, c1⟩, fun _ _ => by omega, fun _ => by omega⟩
   ·rw [if_neg c1]
    obtain ⟨a1, a2, a3⟩ := above_zero (p := p) (l := lvQ S) fun t ht => by have := hab t ht; omega
    rw [a1, a2]
    by_cases c2 : x.1 = p
    ·rw [if_pos (by omega)]
     exact ⟨fun _ => by omega, fun _ _ => by rw [c2], fun _ => by omega⟩
    ·rw [if_neg (by omega)]
     refine ⟨fun _ => by omega, fun _ _ => by omega, fun _ a ha => ?_⟩
     have : x.1 = a := by simpa using ha
     omega
  ·rw [if_neg c0]
   obtain ⟨i1, i2, i3⟩ := uP_side p (S := S) (u := u - x.2.1) hs.2 hl (by omega)
   by_cases c1 : x.1 < p
   ·rw [if_pos c1, if_pos (by omega)]
    exact ⟨fun _ => i1 (by omega), fun _ _ => i2 (by omega) (by omega), fun _ => i3 (by omega)⟩
   ·rw [if_neg c1]
    obtain ⟨a1, a2, a3⟩ := above_zero (p := p) (l := lvQ S) fun t ht => by have := hab t ht; omega
    rw [a1, a2]
    by_cases c2 : x.1 ≤ p
    ·rw [if_pos c2]
     exact ⟨fun _ => by omega, fun _ _ => by omega, fun _ => i3 (by rw [a2]; omega)⟩
    ·rw [if_neg c2]
     exact ⟨fun _ => by omega, fun _ _ => by omega, fun _ => i3 (by rw [a2]; omega)⟩
/-- The quantity traded lies between the bounds at every price that clears. -/
theorem TrZ.mid {S D : List St.Lv} {z p : Int} (h : TrZ S D z) (hs : ((lvQ S).map (·.2)).Pairwise (· < ·)) (hq : ∀ s ∈ lvQ S, 0 ≤ s.1) (ds : ((lvQ (D.map negV)).map (·.2)).Pairwise (· < ·)) (dq : ∀ s ∈ lvQ (D.map negV), 0 ≤ s.1)
  (b1 : aL p (lvQ S) ≤ aM (-p) (lvQ (D.map negV))) (b2 : aL (-p) (lvQ (D.map negV)) ≤ aM p (lvQ S)) :
  (aL p (lvQ S) ≤ z ∧ z ≤ aM p (lvQ S)) ∧ aL (-p) (lvQ (D.map negV)) ≤ z ∧ z ≤ aM (-p) (lvQ (D.map negV)) := by
 obtain ⟨h0, h1, h2⟩ := h
 have a1 := aL_le_aM p hq
 have a2 := aL_le_aM (-p) dq
 have dU : ∀ {u a : Int}, uP (D.map negV) u = some a → uP D u = some (-a) := fun {u a} e => by
  rw [uP_neg, Option.map_eq_some_iff] at e
  obtain ⟨b, e1, e2⟩ := e
  rw [e1, ← e2, Int.neg_neg]
 have dU' : ∀ {u a : Int}, uP D u = some a → uP (D.map negV) u = some (-a) := fun {u a} e => by rw [uP_neg, e]; rfl
 -- the greater of the two lower bounds
 have ok : ∀ u, 0 ≤ u → (u < aL p (lvQ S) ∨ u < aL (-p) (lvQ (D.map negV))) → okU S D u := by
  intro u hu hlt
  obtain ⟨s1, s2, s3⟩ := uP_side p hs hq hu
  obtain ⟨d1, d2, d3⟩ := uP_side (-p) ds dq hu
  by_cases c1 : u < aL p (lvQ S)
  ·obtain ⟨a, e1, e2⟩ := s1 c1
   by_cases c2 : u < aL (-p) (lvQ (D.map negV))
   ·obtain ⟨b, f1, f2⟩ := d1 c2
    exact ⟨a, -b, e1, dU f1, by omega⟩
   ·have f1 := d2 (by clear s1 s2 s3 d1 d2 d3; omega) (by clear s1 s2 s3 d1 d2 d3; omega)
    exact ⟨a, - -p, e1, dU f1, by omega⟩
  ·have e1 := s2 (by clear s1 s2 s3 d1 d2 d3; omega) (by clear s1 s2 s3 d1 d2 d3; omega)
   obtain ⟨b, f1, f2⟩ := d1 (by clear s1 s2 s3 d1 d2 d3; omega)
   exact ⟨p, -b, e1, dU f1, by omega⟩
 have no : ∀ u, 0 ≤ u → aL p (lvQ S) ≤ u → aL (-p) (lvQ (D.map negV)) ≤ u → ¬ okU S D u := by
  rintro u hu g1 g2 ⟨a, b, e1, e2, e3⟩
  obtain ⟨s1, s2, s3⟩ := uP_side p hs hq hu
  obtain ⟨d1, d2, d3⟩ := uP_side (-p) ds dq hu
  have k1 : p ≤ a := by
   by_cases c : u < aM p (lvQ S)
   ·have := s2 g1 c
    rw [e1] at this
    have := Option.some.inj this
    omega
   ·have := s3 (by omega) a e1
    omega
  have k2 : -p ≤ -b := by
   by_cases c : u < aM (-p) (lvQ (D.map negV))
   ·have := d2 g2 c
    rw [dU' e2] at this
    have := Option.some.inj this
    omega
   ·have := d3 (by omega) _ (dU' e2)
    omega
  omega
 have l1 : aL p (lvQ S) ≤ z := by
  by_cases c : z < aL p (lvQ S)
  ·exact absurd (ok z h0 (Or.inl c)) h2
  ·omega
 have l2 : aL (-p) (lvQ (D.map negV)) ≤ z := by
  by_cases c : z < aL (-p) (lvQ (D.map negV))
  ·exact absurd (ok z h0 (Or.inr c)) h2
  ·omega
 have l3 : z = max (aL p (lvQ S)) (aL (-p) (lvQ (D.map negV))) := by
  by_cases c : z = max (aL p (lvQ S)) (aL (-p) (lvQ (D.map negV)))
  ·exact c
  ·exact absurd (h1 (max (aL p (lvQ S)) (aL (-p) (lvQ (D.map negV)))) (by omega) (by omega)) (no _ (by omega) (by omega) (by omega))
 omega
namespace St
/-- Weighted sums over levels are sums over steps. -/
theorem sum_pricesG (g : Int → Int) : ∀ {T : List Tr} {ps : List Int}, ps.Nodup → (∀ t ∈ T, t.2.2 ∈ ps) → sumI (ps.map fun p => qty T p * g p) = sumI (T.map fun t => t.2.1 * g t.2.2)
 | [], ps, _, _ => by
  refine (sumI_zero fun y hy => ?_)
  obtain ⟨x, _, rfl⟩ := List.mem_map.1 hy
  simp [qty]
 | t :: T, ps, hn, h => by
  have ih := sum_pricesG g hn fun s hs => h s (List.mem_cons_of_mem _ hs)
  have e : (ps.map fun p => qty (t :: T) p * g p) = ps.map fun p => (if t.2.2 = p then t.2.1 * g t.2.2 else 0) + qty T p * g p := by
   refine List.map_congr_left fun p _ => ?_
   rw [qty]
   by_cases hp : t.2.2 = p
   ·subst hp
    rw [if_pos rfl, if_pos rfl, Int.add_mul]
   ·rw [if_neg hp, if_neg hp, Int.zero_add, Int.zero_add]
  rw [e, sumI_map_add (fun p => if t.2.2 = p then t.2.1 * g t.2.2 else 0) (fun p => qty T p * g p), ih]
  have := sumI_one (fun p : Int => p) (t.2.1 * g t.2.2) (l := ps) (p := t.2.2) (by simpa using hn) (by simpa using h t (List.mem_cons_self ..))
  rw [this, List.map_cons, sumI]
theorem sumG_tri (g : Int → Int) : ∀ (ls : List (List (Int × Int))) (k : Nat), sumI ((tri k ls).map fun t => t.2.1 * g t.2.2) = sumI (ls.map fun l => sumI (l.map fun s => s.1 * g s.2))
 | [], _ => rfl
 | l :: ls, k => by
  rw [tri, List.map_append, sumI_app, sumG_tri g ls (k + 1), List.map_cons, sumI, List.map_map]
  rfl
theorem sumG_lv (g : Int → Int) {up : Bool} {n : Nat} {ls : List (List (Int × Int))} {lv : List Lv} (h : IsLv up n (tri 0 ls) lv) : sumI (lv.map fun x => x.2.1 * g x.1) = sumI (ls.map fun l => sumI (l.map fun s => s.1 * g s.2)) := by
 have e : (lv.map fun x => x.2.1 * g x.1) = (lv.map (·.1)).map fun p => qty (tri 0 ls) p * g p := by
  rw [List.map_map]
  refine List.map_congr_left fun x hx => ?_
  simp only [Function.comp]
  rw [(h.2.2 x hx).1]
 rw [e, sum_pricesG g h.nodup fun t ht => (h.2.1 t.2.2).2 ⟨t, ht, rfl⟩, sumG_tri]
end St
/-- The surplus of all curves at a price. -/
def gS (p : Int) (ls : List (List (Int × Int))) : Int := sumI (ls.map (aG p))
theorem aG_lv {p : Int} {up : Bool} {n : Nat} {ls : List (List (Int × Int))} {lv : List St.Lv} (h : St.IsLv up n (St.tri 0 ls) lv) : aG p (lvQ lv) = gS p ls := by
 have := St.sumG_lv (fun x => if x < p then p - x else 0) h
 have e : ∀ l : List (Int × Int), aG p l = sumI (l.map fun s => s.1 * if s.2 < p then p - s.2 else 0) := fun l => by
  unfold aG
  congr 1
  refine List.map_congr_left fun s _ => ?_
  split <;> simp
 rw [e, lvQ, List.map_map]
 refine Eq.trans ?_ (this.trans ?_)
 ·rfl
 ·unfold gS
  congr 1
  exact List.map_congr_left fun l _ => (e l).symm
theorem a_ws {up : Bool} {n : Nat} {ls : List (List (Int × Int))} {lv : List St.Lv} (h : St.IsLv up n (St.tri 0 ls) lv) (p : Int) : aL p (lvQ lv) = wsL (-1) ((p : Int) : Rat) ls ∧ aM p (lvQ lv) = wsM (-1) ((p : Int) : Rat) ls := by
 obtain ⟨h1, h2⟩ := agg_lv (side := -1) (q := ((p : Int) : Rat)) h
 unfold wsL wsM
 rw [← h1, ← h2]
 unfold aL aM lvQ lvL lvM
 simp only [List.map_map, cmpQ_lt, cmpQ_zero, Rat.intCast_lt_intCast, Rat.intCast_inj]
 refine ⟨rfl, ?_⟩
 congr 1
 refine List.map_congr_left fun x _ => ?_
 simp only [Function.comp]
 have : x.1 ≤ p ↔ x.1 < p ∨ x.1 = p := by omega
 simp only [this]
theorem lvQ_sorted {n : Nat} {T : List St.Tr} {lv : List St.Lv} (h : St.IsLv true n T lv) : ((lvQ lv).map (·.2)).Pairwise (· < ·) := by
 have := h.1
 unfold lvQ
 rw [List.map_map]
 have h2 : (lv.map (·.1)).Pairwise (· < ·) := this.imp fun {a b} hab => by simpa [St.ltU] using hab
 exact h2
theorem lvQ_pos {up : Bool} {n : Nat} {lv : List St.Lv} (hv : VL up n lv) : (∀ s ∈ lvQ lv, 0 ≤ s.1) ∧ ∀ s ∈ lvQ (lv.map negV), 0 ≤ s.1 := by
 constructor
 ·intro s hs
  obtain ⟨x, hx, rfl⟩ := List.mem_map.1 hs
  have := hv.qty x hx
  simp only
  omega
 ·intro s hs
  obtain ⟨y, hy, rfl⟩ := List.mem_map.1 hs
  obtain ⟨x, hx, rfl⟩ := List.mem_map.1 hy
  have := hv.qty x hx
  show 0 ≤ x.2.1
  omega
theorem aT_tot (lv : List St.Lv) : aT (lvQ lv) = totI lv ∧ aT (lvQ (lv.map negV)) = totI lv := by
 unfold aT lvQ totI
 simp only [List.map_map]
 exact ⟨rfl, rfl⟩
theorem RunV.price {os bs : List (List (Int × Int))} {z p wf : Int} {xs ys : List Int} {S D : List St.Lv} (hc : ckB os bs = 0) (h : RunV os bs z p wf xs ys S D) : balB os bs ((p : Int) : Rat) = true := by
 obtain ⟨_, _, ho, hb⟩ := ckB_iff.1 hc
 exact (h.pr.nearI (Pos.of ho) (Pos.of hb) (PrB.of ho) (PrB.of hb)).1
theorem RunV.mid {os bs : List (List (Int × Int))} {z p wf : Int} {xs ys : List Int} {S D : List St.Lv} (hc : ckB os bs = 0) (h : RunV os bs z p wf xs ys S D) :
  (aL p (lvQ S) ≤ z ∧ z ≤ aM p (lvQ S)) ∧ aL (-p) (lvQ (D.map negV)) ≤ z ∧ z ≤ aM (-p) (lvQ (D.map negV)) := by
 obtain ⟨b1, b2⟩ := balB_iff.1 (h.price hc)
 have n1 := St.IsLv.neg h.isD
 have e1 := a_ws h.isS p
 have e2 := a_ws n1 (-p)
 have e3 := (ws_neg ((p : Int) : Rat) bs).1
 rw [Rat.intCast_neg, e3.1, e3.2] at e2
 refine h.tr.mid (lvQ_sorted h.isS) (lvQ_pos h.vS).1 (lvQ_sorted n1) (lvQ_pos h.vD).2 ?_ ?_
 ·rw [e1.1, e2.2]; exact b1
 ·rw [e2.1, e1.2]; exact b2
theorem cost_neg_cz (lv : List St.Lv) (z : Int) : costI (lvQ lv) z lv.length = -cz (lvQ (lv.map negV)) z := by
 have := costI_neg lv z lv.length
 rw [← costI_cz, lvQ_len, List.length_map, this]
 omega
/-- The welfare is the surplus at the clearing price. -/
theorem RunV.gain {os bs : List (List (Int × Int))} {z p wf : Int} {xs ys : List Int} {S D : List St.Lv} (hc : ckB os bs = 0) (h : RunV os bs z p wf xs ys S D) : wf = gS p os + gS (-p) (negs bs) := by
 obtain ⟨⟨m1, m2⟩, m3, m4⟩ := h.mid hc
 have n1 := St.IsLv.neg h.isD
 have c1 := cz_eq p (lvQ_sorted h.isS) (lvQ_pos h.vS).1 m1 m2
 have c2 := cz_eq (-p) (lvQ_sorted n1) (lvQ_pos h.vD).2 m3 m4
 have e1 := costI_cz (lvQ S) z
 rw [lvQ_len] at e1
 rw [h.w, cost_neg_cz, e1, c1, c2, aG_lv h.isS, aG_lv n1, Int.neg_mul]
 omega







end Go.Proofs.YtjajigkacccdgaaGreat
namespace Go.Proofs.YtjajigkacccdgaaGreat
set_option linter.unusedVariables false
set_option linter.unusedSimpArgs false
open Go.RowKit
open Wd
/-- The cost of a rational quantity on a sorted list of steps. -/
def czQ : List (Int × Int) → Rat → Rat
 | [], _ => 0
 | s :: l, z => lessQ z s.1 * ((s.2 : Int) : Rat) + czQ l (z - lessQ z s.1)
theorem restAt_hd (s : Int × Int) (l : List (Int × Int)) (z : Rat) : ∀ k, restAt (s :: l) z (k + 1) = restAt l (z - lessQ z s.1) k
 | 0 => rfl
 | k + 1 => by
  rw [restAt, restAt_hd s l z k, restAt]
  rfl
theorem partAt_hd (s : Int × Int) (l : List (Int × Int)) (z : Rat) (k : Nat) : partAt (s :: l) z (k + 1) = partAt l (z - lessQ z s.1) k := by
 rw [partAt, restAt_hd, partAt]
 rfl
theorem costAt_hd (s : Int × Int) (l : List (Int × Int)) (z : Rat) : ∀ k, costAt (s :: l) z (k + 1) = lessQ z s.1 * ((s.2 : Int) : Rat) + costAt l (z - lessQ z s.1) k
 | 0 => by
  simp only [costAt, partAt, restAt, List.getElem?_cons_zero, Option.getD_some]
  grind
 | k + 1 => by
  rw [costAt, costAt_hd s l z k, costAt, partAt_hd]
  simp only [List.getElem?_cons_succ]
  grind
theorem costAt_cz : ∀ (l : List (Int × Int)) (z : Rat), costAt l z l.length = czQ l z
 | [], _ => rfl
 | s :: l, z => by rw [List.length_cons, costAt_hd, costAt_cz l, czQ]
theorem lessQ_spec {z : Rat} {a : Int} (h0 : 0 ≤ z) (ha : 0 ≤ a) : 0 ≤ lessQ z a ∧ lessQ z a ≤ (a : Rat) ∧ lessQ z a ≤ z ∧ ((lessQ z a = z ∧ z ≤ (a : Rat)) ∨ (lessQ z a = (a : Rat) ∧ (a : Rat) < z)) := by
 have h1 : (0 : Rat) ≤ (a : Rat) := by exact_mod_cast ha
 unfold lessQ
 split
 ·exact ⟨h1, Rat.le_refl, by grind, Or.inr ⟨rfl, by assumption⟩⟩
 ·exact ⟨h0, by grind, Rat.le_refl, Or.inl ⟨rfl, by grind⟩⟩
theorem czQ_zero : ∀ {l : List (Int × Int)}, (∀ s ∈ l, 0 ≤ s.1) → czQ l 0 = 0
 | [], _ => rfl
 | s :: l, h => by
  have h2 := h s (List.mem_cons_self ..)
  obtain ⟨h3, h4, h5, h6⟩ := lessQ_spec (z := 0) Rat.le_refl h2
  have e : lessQ 0 s.1 = 0 := by grind
  rw [czQ, e, show (0 : Rat) - 0 = 0 by grind, czQ_zero fun t ht => h t (List.mem_cons_of_mem _ ht)]
  grind
theorem aT_nonneg : ∀ {l : List (Int × Int)}, (∀ s ∈ l, 0 ≤ s.1) → 0 ≤ aT l
 | [], _ => Int.le_refl _
 | s :: l, h => by
  have h1 := aT_nonneg fun t ht => h t (List.mem_cons_of_mem _ ht)
  have h2 := h s (List.mem_cons_self ..)
  rw [aT_cons]
  omega
theorem mul_nn {a b : Rat} (ha : 0 ≤ a) (hb : 0 ≤ b) : 0 ≤ a * b := Rat.mul_nonneg ha hb
theorem mul_zero_iff {a b : Rat} (h : a * b = 0) : a = 0 ∨ b = 0 := Rat.mul_eq_zero.1 h
/-- What a quantity costs more than at its price less the surplus: nothing just between the bounds. -/
theorem czQ_law (p : Int) : ∀ {l : List (Int × Int)} {z : Rat}, (l.map (·.2)).Pairwise (· < ·) → (∀ s ∈ l, 0 < s.1) → 0 ≤ z → z ≤ ((aT l : Int) : Rat) →
  ((p : Int) : Rat) * z - ((aG p l : Int) : Rat) ≤ czQ l z ∧ (czQ l z = ((p : Int) : Rat) * z - ((aG p l : Int) : Rat) ↔ ((aL p l : Int) : Rat) ≤ z ∧ z ≤ ((aM p l : Int) : Rat))
 | [], z, _, _, h0, h1 => by
  have e : z = 0 := by
   have : ((aT [] : Int) : Rat) = 0 := rfl
   grind
  subst e
  have e1 : ((aG p [] : Int) : Rat) = 0 := rfl
  have e2 : ((aL p [] : Int) : Rat) = 0 := rfl
  have e3 : ((aM p [] : Int) : Rat) = 0 := rfl
  rw [e1, e2, e3, czQ]
  refine ⟨by grind, by grind⟩
 | s :: l, z, hs, h, h0, h1 => by
  have h2 := h s (List.mem_cons_self ..)
  rw [List.map_cons, List.pairwise_cons] at hs
  have hab : ∀ t ∈ l, s.2 < t.2 := fun t ht => hs.1 _ (List.mem_map.2 ⟨t, ht, rfl⟩)
  have hl := fun t ht => h t (List.mem_cons_of_mem _ ht)
  obtain ⟨m1, m2, m3, m4⟩ := lessQ_spec (z := z) h0 (Int.le_of_lt h2)
  have hT : (0 : Rat) ≤ ((aT l : Int) : Rat) := by exact_mod_cast aT_nonneg fun t ht => Int.le_of_lt (hl t ht)
  rw [aT_cons, Rat.intCast_add] at h1
  have ih := czQ_law p (l := l) (z := z - lessQ z s.1) hs.2 hl (by grind) (by grind)
  rw [czQ, aG_cons, aL_cons, aM_cons]
  have hq : (0 : Rat) < ((s.1 : Int) : Rat) := by exact_mod_cast h2
  generalize lessQ z s.1 = m at *
  generalize czQ l (z - m) = C at *
  by_cases c1 : s.2 < p
  ·rw [if_pos c1, if_pos c1, if_pos (by omega)]
   simp only [Rat.intCast_add, Rat.intCast_mul, Rat.intCast_sub]
   have hp : ((s.2 : Int) : Rat) < ((p : Int) : Rat) := by exact_mod_cast c1
   have hAL : (0 : Rat) ≤ ((aL p l : Int) : Rat) := by exact_mod_cast (aL_le_aM p fun t ht => Int.le_of_lt (hl t ht)).1
   generalize ((aG p l : Int) : Rat) = G at *
   generalize ((aL p l : Int) : Rat) = L at *
   generalize ((aM p l : Int) : Rat) = M at *
   generalize ((s.1 : Int) : Rat) = q at *
   generalize ((s.2 : Int) : Rat) = r at *
   generalize ((p : Int) : Rat) = P at *
   have k1 : 0 ≤ (q - m) * (P - r) := mul_nn (by grind) (by grind)
   have k2 : (q - m) * (P - r) = q * (P - r) - (P * m - m * r) := by grind
   have k3 : P * (z - m) = P * z - P * m := by grind
   rw [k3] at ih
   refine ⟨by grind, ?_, ?_⟩
   ·intro he
    have k4 : (q - m) * (P - r) = 0 := by grind
    have k5 : q = m := by
     rcases mul_zero_iff k4 with h | h
     ·grind
     ·grind
    have := ih.2.1 (by grind)
    grind
   ·rintro ⟨b1, b2⟩
    have k5 : m = q := by grind
    have := ih.2.2 (by grind)
    have k4 : (q - m) * (P - r) = 0 := by rw [k5]; grind
    grind
  ·rw [if_neg c1, if_neg c1]
   obtain ⟨a1, a2, a3⟩ := above_zero (p := p) (l := l) fun t ht => by have := hab t ht; omega
   rw [a1, a2, a3] at ih
   rw [a1, a2, a3]
   have hp : ((p : Int) : Rat) ≤ ((s.2 : Int) : Rat) := by exact_mod_cast (show p ≤ s.2 by omega)
   have z0 : ((0 : Int) : Rat) = 0 := rfl
   by_cases c2 : s.2 = p
   ·rw [if_pos (by omega)]
    simp only [Int.zero_add, Int.add_zero, z0] at ih ⊢
    rw [c2]
    generalize ((s.1 : Int) : Rat) = q at *
    generalize ((p : Int) : Rat) = P at *
    have k3 : P * (z - m) = P * z - P * m := by grind
    rw [k3] at ih
    refine ⟨by grind, ?_, ?_⟩
    ·intro he
     have := ih.2.1 (by grind)
     grind
    ·rintro ⟨b1, b2⟩
     have := ih.2.2 (by grind)
     grind
   ·rw [if_neg (by omega)]
    simp only [Int.zero_add, Int.add_zero, z0] at ih ⊢
    have hp : ((p : Int) : Rat) < ((s.2 : Int) : Rat) := by exact_mod_cast (show p < s.2 by omega)
    generalize ((s.1 : Int) : Rat) = q at *
    generalize ((s.2 : Int) : Rat) = r at *
    generalize ((p : Int) : Rat) = P at *
    have k1 : 0 ≤ m * (r - P) := mul_nn m1 (by grind)
    have k2 : m * (r - P) = m * r - P * m := by grind
    have k3 : P * (z - m) = P * z - P * m := by grind
    rw [k3] at ih
    refine ⟨by grind, ?_, ?_⟩
    ·intro he
     have k4 : m * (r - P) = 0 := by grind
     have k5 : m = 0 := by
      rcases mul_zero_iff k4 with h | h
      ·grind
      ·grind
     have := ih.2.1 (by grind)
     grind
    ·rintro ⟨b1, b2⟩
     have k5 : m = 0 := by grind
     have := ih.2.2 (by grind)
     rw [k5]
     grind
/-- A price at which a quantity lies between the bounds. -/
theorem price_at : ∀ {l : List (Int × Int)} {z : Rat}, (l.map (·.2)).Pairwise (· < ·) → (∀ s ∈ l, 0 < s.1) → l ≠ [] → 0 ≤ z → z ≤ ((aT l : Int) : Rat) → ∃ t ∈ l, ((aL t.2 l : Int) : Rat) ≤ z ∧ z ≤ ((aM t.2 l : Int) : Rat)
 | [], _, _, _, hne, _, _ => absurd rfl hne
 | s :: l, z, hs, h, _, h0, h1 => by
  rw [List.map_cons, List.pairwise_cons] at hs
  have hab : ∀ t ∈ l, s.2 < t.2 := fun t ht => hs.1 _ (List.mem_map.2 ⟨t, ht, rfl⟩)
  have hl := fun t ht => h t (List.mem_cons_of_mem _ ht)
  by_cases hz : z ≤ ((s.1 : Int) : Rat)
  ·refine ⟨s, List.mem_cons_self .., ?_, ?_⟩
   ·obtain ⟨a1, a2, a3⟩ := above_zero (p := s.2) (l := l) hab
    rw [aL_cons, a1, if_neg (Int.lt_irrefl _)]
    exact h0
   ·obtain ⟨a1, a2, a3⟩ := above_zero (p := s.2) (l := l) hab
    rw [aM_cons, a2, if_pos (Int.le_refl _), Int.add_zero]
    exact hz
  ·rw [aT_cons, Rat.intCast_add] at h1
   have hne : l ≠ [] := by
    rintro rfl
    have : ((aT [] : Int) : Rat) = 0 := rfl
    grind
   obtain ⟨t, ht, b1, b2⟩ := price_at (z := z - ((s.1 : Int) : Rat)) hs.2 hl hne (by grind) (by grind)
   refine ⟨t, List.mem_cons_of_mem _ ht, ?_, ?_⟩
   ·rw [aL_cons, if_pos (hab t ht), Rat.intCast_add]
    grind
   ·rw [aM_cons, if_pos (Int.le_of_lt (hab t ht)), Rat.intCast_add]
    grind

/-- Sums of the first values of a row. -/
def sumF (f : Nat → Rat) : Nat → Rat
 | 0 => 0
 | k + 1 => sumF f k + f k
theorem sumF_le {f g : Nat → Rat} : ∀ {n : Nat}, (∀ i, i < n → f i ≤ g i) → sumF f n ≤ sumF g n
 | 0, _ => Rat.le_refl
 | n + 1, h => by
  have h1 := sumF_le (n := n) fun i hi => h i (by omega)
  have h2 := h n (by omega)
  rw [sumF, sumF]
  grind
theorem sumF_eq {f g : Nat → Rat} : ∀ {n : Nat}, (∀ i, i < n → f i = g i) → sumF f n = sumF g n
 | 0, _ => rfl
 | n + 1, h => by rw [sumF, sumF, sumF_eq (n := n) fun i hi => h i (by omega), h n (by omega)]
theorem sumF_all {f g : Nat → Rat} : ∀ {n : Nat}, (∀ i, i < n → f i ≤ g i) → sumF g n ≤ sumF f n → ∀ i, i < n → f i = g i
 | 0, _, _, i, hi => by omega
 | n + 1, h, hs, i, hi => by
  have h1 := sumF_le (n := n) fun i hi => h i (by omega)
  have h2 := h n (by omega)
  rw [sumF, sumF] at hs
  by_cases e : i = n
  ·subst e; grind
  ·exact sumF_all (n := n) (fun i hi => h i (by omega)) (by grind) i (by omega)
/-- A division that fills from the last to the first between its bounds. -/
structure LF (n : Nat) (lo up : Nat → Rat) (xs : Nat → Rat) (q : Rat) : Prop where
 ge : ∀ i, i < n → lo i ≤ xs i
 le : ∀ i, i < n → xs i ≤ up i
 sum : sumF xs n = q
 last : ∀ i, i < n → lo i < xs i → ∀ k, k < n → i < k → xs k = up k
/-- It is lexicographically the least between the bounds with at least that sum. -/
theorem LF.least {n : Nat} {lo up xs ys : Nat → Rat} {q : Rat} (h : LF n lo up xs q) (h1 : ∀ i, i < n → lo i ≤ ys i) (h2 : ∀ i, i < n → ys i ≤ up i) (hs : q ≤ sumF ys n) {i : Nat} (hi : i < n) (he : ∀ j, j < i → xs j = ys j) (hne : xs i ≠ ys i) : xs i < ys i := by
 have hc : ¬ ys i < xs i := fun hlt => by
  have hk : ∀ k, k < n → ys k ≤ xs k := fun k hk => by
   rcases Nat.lt_trichotomy k i with h3 | h3 | h3
   ·rw [he k h3]; exact Rat.le_refl
   ·subst h3; exact Rat.le_of_lt hlt
   ·rw [h.last i hi (Std.lt_of_le_of_lt (h1 i hi) hlt) k hk h3]
    exact h2 k hk
  have := sumF_all (f := ys) (g := xs) hk (by rw [h.sum]; exact hs) i hi
  exact hne this.symm
 grind
/-- Two such divisions of one sum are one. -/
theorem LF.only {n : Nat} {lo up xs ys : Nat → Rat} {q : Rat} (h : LF n lo up xs q) (h' : LF n lo up ys q) : ∀ i, i < n → xs i = ys i := by
 intro i
 induction i using Nat.strongRecOn with
 | _ i ih =>
  intro hi
  by_cases e : xs i = ys i
  ·exact e
  ·have a := h.least h'.ge h'.le (by rw [h'.sum]; exact Rat.le_refl) hi (fun j hj => ih j hj (by omega)) e
   have b := h'.least h.ge h.le (by rw [h.sum]; exact Rat.le_refl) hi (fun j hj => (ih j hj (by omega)).symm) (Ne.symm e)
   grind

end Go.Proofs.YtjajigkacccdgaaGreat

namespace Go.Proofs.YtjajigkacccdgaaGreat
set_option linter.unusedVariables false
set_option linter.unusedSimpArgs false
open Go.RowKit
open Wd
namespace St

def ltB (up : Bool) (a b : Int) : Bool := if up then decide (a < b) else decide (b < a)














theorem lv_sorted {up : Bool} {lv : List Lv} (h : (lv.map (·.1)).Pairwise (ltU up)) {i j : Nat} (hij : i < j) (hj : j < lv.length) : ltU up (lv[i]?.getD (0, 0, [])).1 (lv[j]?.getD (0, 0, [])).1 := by
 have := List.pairwise_iff_getElem.1 h i j (by simpa using (show i < lv.length by omega)) (by simpa using hj) hij
 rw [List.getElem_map, List.getElem_map] at this
 rw [List.getElem?_eq_getElem (show i < lv.length by omega), List.getElem?_eq_getElem hj]
 exact this







end St
end Go.Proofs.YtjajigkacccdgaaGreat