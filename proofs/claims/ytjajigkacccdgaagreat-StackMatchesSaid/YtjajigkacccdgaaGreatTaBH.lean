/-
A region that draws its order and ends in operations that wait for all others (stores): its front may be walked by itself, with the ends behind it. Short names for the steps of a drawn region. No statement of the seat is proved here; no conditions beyond those of each theorem.
-/
import Derived.Test.YtjajigkacccdgaaGreatTaAA
import Derived.OrdersHeld
import Derived.Deep.RegionHeld3
namespace Go.Proofs.YtjajigkacccdgaaGreat
set_option linter.unusedVariables false
set_option linter.unusedSimpArgs false
open Go

section
variable {P : Program} {ops fr : Array Oper} {Q : Exit → Act → World → Prop} {N r : Nat}

/-- Behind the front comes k; another exit is the region's own. -/
def Qfr (Q : Exit → Act → World → Prop) (k : Act → World → Prop) : Exit → Act → World → Prop
 | .normal => k
 | .panic c => Q (.panic c)
 | e => Q e
theorem wpAny_more : ∀ (f : Nat) (l : Array Bool) (a : Act) (w : World), wpAny P .any ops Q f l a w → wpAny P .any ops Q (f + 1) l a w
 | 0, _, _, _, h => ⟨fun _ => h.2, by rw [h.1]; intro i hi; cases hi⟩
 | f + 1, l, a, w, h => ⟨h.1, fun i hi => wpOp_mono (fun a' w' => wpAny_more f _ a' w') (h.2 i hi)⟩
theorem wpAny_mores {f : Nat} {l : Array Bool} {a : Act} {w : World} (h : wpAny P .any ops Q f l a w) : ∀ k, wpAny P .any ops Q (f + k) l a w
 | 0 => h
 | k + 1 => wpAny_more _ _ _ _ (wpAny_mores h k)

/-- The operations that i waits for. -/
def needs (ops : Array Oper) (i : Nat) : List Nat := ((ops[i]?).map fun o => (o.after.toList.filter (Region.binds .any)).map (·.on)).getD []
/-- Operation j waits for i, by way of others. -/
def reach (ops : Array Oper) : Nat → Nat → Nat → Bool
 | 0, _, _ => false
 | f + 1, j, i => (needs ops j).any (fun k => k == i) || (needs ops j).any (fun k => reach ops f k i)
def Clo (ops : Array Oper) (l : Array Bool) : Prop := ∀ k, l.getD k false = true → ∀ e ∈ needs ops k, l.getD e false = true
theorem reach_listed {l : Array Bool} (hc : Clo ops l) : ∀ (f j i : Nat), (∀ e ∈ needs ops j, l.getD e false = true) → reach ops f j i = true → l.getD i false = true
 | 0, _, _, _, h => by cases h
 | f + 1, j, i, hj, h => by
  unfold reach at h
  rcases Bool.or_eq_true_iff.1 h with h | h
  ·obtain ⟨k, hk, e⟩ := List.any_eq_true.1 h
   rw [← eq_of_beq e]
   exact hj k hk
  ·obtain ⟨k, hk, e⟩ := List.any_eq_true.1 h
   exact reach_listed hc f k i (hc k (hj k hk)) e
theorem ready_needs {l : Array Bool} {i : Nat} : i ∈ Region.ready .any ops l ↔ l.getD i true = false ∧ i < ops.size ∧ ∀ e ∈ needs ops i, l.getD e false = true := by
 rw [mem_ready]
 unfold needs
 constructor
 ·rintro ⟨h0, o, ho, h⟩
  refine ⟨h0, (Array.getElem?_eq_some_iff.1 ho).1, ?_⟩
  rw [ho]
  intro e he
  simp only [Option.map_some, Option.getD_some, List.mem_map, List.mem_filter] at he
  obtain ⟨x, ⟨hx, hb⟩, rfl⟩ := he
  exact h x (by simpa using hx) hb
 ·rintro ⟨h0, hi, h⟩
  have ho : ops[i]? = some ops[i] := Array.getElem?_eq_getElem hi
  refine ⟨h0, _, ho, fun e he hb => ?_⟩
  refine h e.on ?_
  rw [ho]
  simp only [Option.map_some, Option.getD_some, List.mem_map, List.mem_filter]
  exact ⟨e, ⟨by simpa using he, hb⟩, rfl⟩
/-- The mask of the front. -/
def mask (N r : Nat) : Array Bool := Array.replicate N true ++ Array.replicate r false
def wide (l : Array Bool) (r : Nat) : Array Bool := l ++ Array.replicate r false
theorem wide_lt {l : Array Bool} {i : Nat} (d : Bool) (h : i < l.size) : (wide l r).getD i d = l.getD i d := by
 unfold wide
 simp [Array.getD_eq_getD_getElem?, Array.getElem?_append_left h]
theorem wide_ge {l : Array Bool} {i : Nat} (h : l.size ≤ i) : (wide l r).getD i false = false := by
 unfold wide
 rw [Array.getD_eq_getD_getElem?, Array.getElem?_append_right h, Array.getElem?_replicate]
 split <;> rfl
theorem wide_set {l : Array Bool} {i : Nat} (h : i < l.size) : (wide l r).setIfInBounds i true = wide (l.setIfInBounds i true) r := by
 unfold wide
 rw [Array.setIfInBounds_append_left h]
/-- What is asked of a region and its front: the front is its beginning; every operation waits for earlier ones and is guarded by an earlier one; each operation behind the front waits for all of the front. -/
def splits (ops : Array Oper) (N r : Nat) : Bool :=
 (ops.size == N + r) && ((List.range (N + r)).all fun i => (needs ops i).all (fun k => decide (k < i)) && (((ops[i]?).map fun o => match o.guard with | none => true | some (g, _) => decide (g < i)).getD true)) &&
  ((List.range r).all fun j => (List.range N).all fun i => reach ops (N + r) (N + j) i)

theorem wpOp_front {i : Nat} {o : Oper} {K K' : Act → World → Prop} {k : Act → World → Prop} {a : Act} {w : World} (h1 : fr[i]? = some o) (h2 : ops[i]? = some o) (hg : ∀ g b, o.guard = some (g, b) → fr[g]? = ops[g]?) (hK : ∀ a w, K a w → K' a w)
  (h : wpOp P fr (Qfr Q k) i K a w) : wpOp P ops Q i K' a w := by
 unfold wpOp at *
 simp only [h1, h2] at *
 have hw : Region.wanted o (yielded fr a.tmps) = Region.wanted o (yielded ops a.tmps) := by
  unfold Region.wanted
  cases ho : o.guard with
  | none => rfl
  | some p => obtain ⟨g, b⟩ := p; simp only [yielded, hg g b ho]
 rw [← hw]
 have hl : LetsOut (Qfr Q k) → LetsOut Q := fun ⟨a, w, h⟩ => ⟨a, w, h⟩
 split
 ·rename_i hw'
  simp only [hw', if_true] at h
  refine h.imp (fun h => ?_) (fun h => ⟨h.1, hl h.2⟩)
  unfold Oper.wp at *
  generalize (execOp a.eval o).run P w = res at *
  cases res with
  | ok n w' =>
   cases n <;> simp only [Oper.upon] at h ⊢
   case value => exact hK _ _ h
   case skip => exact hK _ _ h
   case defer => exact hK _ _ h
   case enter f args =>
    refine Calls.mono h fun e w'' he => ?_
    cases e with
    | returned u => exact hK _ _ he
    | panicked c => exact he
    | outgrown => exact hl he
   case row row args => exact Rows.mono h fun _ _ he => hK _ _ he
  | halt x w' => cases x <;> simp only [Oper.upon] at h ⊢ <;> exact h
 ·rename_i hw'
  simp only [hw'] at h
  exact hK _ _ h






theorem wpAny_split (hs : splits ops N r = true) (hf : fr.size = N) (hpre : ∀ i, i < N → fr[i]? = ops[i]?) : ∀ (f : Nat) (l : Array Bool) (a : Act) (w : World), l.size = N → Clo fr l →
  wpAny P .any fr (Qfr Q (wpAny P .any ops Q r (mask N r))) f l a w → wpAny P .any ops Q (f + r) (wide l r) a w := by
 unfold splits at hs
 simp only [Bool.and_eq_true, beq_iff_eq, List.all_eq_true, List.mem_range, decide_eq_true_eq] at hs
 obtain ⟨⟨hM, hA⟩, hR⟩ := hs
 have hneed : ∀ i, i < N → needs fr i = needs ops i := fun i hi => by unfold needs; rw [hpre i hi]
 -- all listed, or one that is not listed may come up
 have hmin : ∀ (l : Array Bool), l.size = N → (∀ i, i < N → l.getD i false = true) ∨ ∃ i, i < N ∧ i ∈ Region.ready .any fr l := fun l hl => by
  rcases Classical.em (∀ i, i < N → l.getD i false = true) with h | h
  ·exact .inl h
  ·right
   have : ∃ i, i < N ∧ l.getD i false = false := by
    rcases Classical.em (∃ i, i < N ∧ l.getD i false = false) with h' | h'
    ·exact h'
    ·exact absurd (fun i hi => by
      cases e : l.getD i false
      ·exact absurd ⟨i, hi, e⟩ h'
      ·rfl) h
   obtain ⟨i, hi, e⟩ := this
   induction i using Nat.strongRecOn with
   | ind i ih =>
    rcases Classical.em (∀ e ∈ needs fr i, l.getD e false = true) with h' | h'
    ·refine ⟨i, hi, ready_needs.2 ⟨?_, by omega, h'⟩⟩
     simp only [Array.getD_eq_getD_getElem?, Array.getElem?_eq_getElem (show i < l.size by omega), Option.getD_some] at e ⊢
     exact e
    ·have : ∃ k, k ∈ needs fr i ∧ l.getD k false = false := by
      rcases Classical.em (∃ k, k ∈ needs fr i ∧ l.getD k false = false) with h2 | h2
      ·exact h2
      ·exact absurd (fun k hk => by
        cases e : l.getD k false
        ·exact absurd ⟨k, hk, e⟩ h2
        ·rfl) h'
     obtain ⟨k, hk, e'⟩ := this
     have hlt : k < i := (hA i (by omega)).1 k (by rw [← hneed i hi]; exact hk)
     exact ih k hlt (by omega) e'
 have hfull : ∀ (l : Array Bool), l.size = N → (∀ i, i < N → l.getD i false = true) → wide l r = mask N r := fun l hl h => by
  unfold wide mask
  congr 1
  apply Array.ext
  ·simp [hl]
  ·intro i h1 h2
   have := h i (by omega)
   simp only [Array.getD_eq_getD_getElem?, Array.getElem?_eq_getElem h1, Option.getD_some] at this
   simp [this]
 intro f
 induction f with
 | zero =>
  intro l a w hl hc h
  rcases hmin l hl with h1 | ⟨i, _, h1⟩
  ·rw [hfull l hl h1, Nat.zero_add]
   exact h.2
  ·rw [h.1] at h1; cases h1
 | succ f ih =>
  intro l a w hl hc h
  rcases hmin l hl with h1 | ⟨i0, hi0, h1⟩
  ·have hr : Region.ready .any fr l = [] := by
    refine List.eq_nil_iff_forall_not_mem.2 fun i hi => ?_
    obtain ⟨g1, g2, -⟩ := ready_needs.1 hi
    have := h1 i (by omega)
    simp only [Array.getD_eq_getD_getElem?, Array.getElem?_eq_getElem (show i < l.size by omega), Option.getD_some] at this g1
    rw [g1] at this; cases this
   rw [hfull l hl h1, show f + 1 + r = r + (f + 1) by omega]
   exact wpAny_mores (h.1 hr) _
  ·have hcw : Clo ops (wide l r) := fun k hk e he => by
    rcases Nat.lt_or_ge k N with hk' | hk'
    ·rw [wide_lt false (by omega)] at hk
     have hlt : e < k := (hA k (by omega)).1 e he
     rw [wide_lt false (by omega)]
     exact hc k hk e (by rw [hneed k hk']; exact he)
    ·rw [wide_ge (by omega)] at hk; cases hk
   have hrd : ∀ i, i ∈ Region.ready .any ops (wide l r) → i < N ∧ i ∈ Region.ready .any fr l := fun i hi => by
    obtain ⟨g1, g2, g3⟩ := ready_needs.1 hi
    rcases Nat.lt_or_ge i N with hi' | hi'
    ·refine ⟨hi', ready_needs.2 ⟨by rw [wide_lt true (by omega)] at g1; exact g1, by omega, fun e he => ?_⟩⟩
     rw [hneed i hi'] at he
     have hlt : e < i := (hA i (by omega)).1 e he
     have := g3 e he
     rw [wide_lt false (by omega)] at this
     exact this
    ·exfalso
     have hall : ∀ k, k < N → (wide l r).getD k false = true := fun k hk => reach_listed hcw (N + r) i k g3 (by have := hR (i - N) (by omega) k hk; rw [show N + (i - N) = i by omega] at this; exact this)
     obtain ⟨q1, -, -⟩ := ready_needs.1 h1
     have := hall i0 hi0
     rw [wide_lt false (by omega)] at this
     simp only [Array.getD_eq_getD_getElem?, Array.getElem?_eq_getElem (show i0 < l.size by omega), Option.getD_some] at this q1
     rw [q1] at this; cases this
   have hin : i0 ∈ Region.ready .any ops (wide l r) := by
    obtain ⟨q1, -, q3⟩ := ready_needs.1 h1
    refine ready_needs.2 ⟨by rw [wide_lt true (by omega)]; exact q1, by omega, fun e he => ?_⟩
    have hlt : e < i0 := (hA i0 (by omega)).1 e he
    rw [wide_lt false (by omega)]
    exact q3 e (by rw [hneed i0 hi0]; exact he)
   rw [show f + 1 + r = (f + r) + 1 by omega]
   refine ⟨fun h0 => (by rw [h0] at hin; cases hin), fun i hi => ?_⟩
   obtain ⟨hiN, hi'⟩ := hrd i hi
   have ho : ops[i]? = some ops[i] := Array.getElem?_eq_getElem (show i < ops.size by omega)
   refine wpOp_front ((hpre i hiN).trans ho) ho (fun g b hgd => ?_) (fun a' w' h' => ?_) (h.2 i hi')
   ·have := (hA i (by omega)).2
    rw [ho] at this
    simp only [Option.map_some, Option.getD_some, hgd, decide_eq_true_eq] at this
    exact hpre g (by omega)
   ·rw [wide_set (by omega)]
    refine ih _ a' w' (by simp [hl]) ?_ h'
    intro k hk e he
    obtain ⟨q1, -, q3⟩ := ready_needs.1 hi'
    by_cases hki : i = k
    ·subst hki
     exact getD_set_true (q3 e he)
    ·rw [getD_set_ne false hki] at hk
     exact getD_set_true (hc k hk e he)

/-- **The beginning**: the front of the region under S, then the ends. -/
theorem wp_region_front {id : Nat} {a : Act} {w : World} (N r : Nat) (fr : Array Oper) (S : World → Prop) (hm : P.follows .mixedOrders = true) (hs : splits ops N r = true) (hfr : fr = (ops.toList.take N).toArray) (hS : S w.drew)
  (h : S w.drew → wpAnyH P .any fr (Qfr Q (wpAny P .any ops Q r (mask N r))) S N (Array.replicate N false) a w.drew) : (Code.region id ops true).wp P Q a w := by
 refine wp_region_any hm ?_
 have hs' := hs
 unfold splits at hs
 simp only [Bool.and_eq_true, beq_iff_eq] at hs
 have hM := hs.1.1
 have hsz : fr.size = N := by rw [hfr]; simp; omega
 have hz := wpAny_split (P := P) (Q := Q) hs' hsz (fun i hi => by
  rw [hfr, List.getElem?_toArray, List.getElem?_take]
  simp [hi]) N (Array.replicate N false) a w.drew (by simp) (fun k hk => by
   rw [Array.getD_eq_getD_getElem?, Array.getElem?_replicate] at hk
   split at hk <;> cases hk) (wpAny_of_held _ _ _ _ (h hS))
 rw [hM]
 have e : wide (Array.replicate N false) r = Array.replicate (N + r) false := by
  unfold wide
  rw [Array.replicate_append_replicate]
 rw [e] at hz
 exact hz
end
end Go.Proofs.YtjajigkacccdgaaGreat
namespace Go.Proofs.YtjajigkacccdgaaGreat
set_option linter.unusedVariables false
set_option linter.unusedSimpArgs false
open Go
theorem p1 {α : Type} {xs : List α} {i : Nat} (h : i < xs.toArray.size) : xs.toArray[i] = xs[i]'(by simpa using h) := List.getElem_toArray h
theorem p2 {α : Type} {a : α} {xs : List α} (h : 0 < (a :: xs).length) : (a :: xs)[0] = a := rfl
theorem p3 {α : Type} {a : α} {xs : List α} {i : Nat} (h : i + 1 < (a :: xs).length) : (a :: xs)[i + 1] = xs[i]'(Nat.lt_of_succ_lt_succ h) := rfl
theorem p4 {α : Type} (l : List α) (i : Nat) (a : α) : l.toArray.setIfInBounds i a = (l.set i a).toArray := List.setIfInBounds_toArray l i a
theorem p5 {α : Type} {x a : α} {xs : List α} : (x :: xs).set 0 a = a :: xs := rfl
theorem p6 {α : Type} {x a : α} {xs : List α} {n : Nat} : (x :: xs).set (n + 1) a = x :: xs.set n a := rfl
section
variable {P : Program} {ops : Array Oper} {Q : Exit → Act → World → Prop} {md : Region.Mode} {S : World → Prop}
/-- Take number i first; its value v. -/
theorem tkk {oi : Oper} {v : Value} {fuel : Nat} {listed : Array Bool} {a : Act} {w : World} (i : Nat) (hi : ops[i]? = some oi) (hc : (Region.noSelect ops && (Region.free md ops listed i && (Region.ready md ops listed).contains i)) = true)
  (hQ : ∀ c a w, Q (.panic c) (a.put oi.dst v) w → Q (.panic c) a w) (hy : YieldsIf P ops S oi v a) (hS : S w) (h : wpAnyH P md ops Q S fuel (listed.setIfInBounds i true) (a.put oi.dst v) w) : wpAnyH P md ops Q S (fuel + 1) listed a w := by
 simp only [Bool.and_eq_true] at hc
 exact wpAnyH_take hi hc.1 hc.2.1 hc.2.2 hQ hy hS h
end

end Go.Proofs.YtjajigkacccdgaaGreat
