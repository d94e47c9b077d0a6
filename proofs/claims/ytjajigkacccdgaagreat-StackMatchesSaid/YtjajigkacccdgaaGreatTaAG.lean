/-
Plain law of package stack: quantities and parts by price. No statement of the seat is proved here; no conditions beyond those of each theorem.
-/
namespace Go.Proofs.YtjajigkacccdgaaGreat
set_option linter.unusedVariables false
set_option linter.unusedSimpArgs false
namespace St

/-- A step of curve t.1: quantity t.2.1 at price t.2.2. -/
abbrev Tr := Nat × Int × Int
def tri : Nat → List (List (Int × Int)) → List Tr
 | _, [] => []
 | k, l :: ls => l.map (fun s => (k, s.1, s.2)) ++ tri (k + 1) ls
def qty : List Tr → Int → Int
 | [], _ => 0
 | t :: T, p => (if t.2.2 = p then t.2.1 else 0) + qty T p
def part : List Tr → Int → Nat → Int
 | [], _, _ => 0
 | t :: T, p, i => (if t.2.2 = p ∧ t.1 = i then t.2.1 else 0) + part T p i
def parts (n : Nat) (T : List Tr) (p : Int) : List Int := (List.range n).map (part T p)
def addP (ps : List Int) (p : Int) : List Int := if p ∈ ps then ps else ps ++ [p]
def pr (T : List Tr) : List Int := T.foldl (fun a t => addP a t.2.2) []

theorem qty_app : ∀ (T S : List Tr) (p : Int), qty (T ++ S) p = qty T p + qty S p
 | [], S, p => by simp [qty]
 | t :: T, S, p => by rw [List.cons_append, qty, qty, qty_app T S p]; omega
theorem part_app : ∀ (T S : List Tr) (p : Int) (i : Nat), part (T ++ S) p i = part T p i + part S p i
 | [], S, p, i => by simp [part]
 | t :: T, S, p, i => by rw [List.cons_append, part, part, part_app T S p i]; omega
theorem parts_len (n : Nat) (T : List Tr) (p : Int) : (parts n T p).length = n := by simp [parts]
theorem parts_get {n : Nat} {T : List Tr} {p : Int} {i : Nat} (hi : i < n) : (parts n T p)[i]?.getD 0 = part T p i := by simp [parts, hi]
theorem ext_getD {xs ys : List Int} (hl : xs.length = ys.length) (h : ∀ i, i < xs.length → xs[i]?.getD 0 = ys[i]?.getD 0) : xs = ys := by
 apply List.ext_getElem hl
 intro i hi hj
 have := h i hi
 rw [List.getElem?_eq_getElem hi, List.getElem?_eq_getElem hj] at this
 exact this
theorem parts_snoc {n : Nat} {T : List Tr} {i : Nat} {q p : Int} (hi : i < n) (p' : Int) : parts n (T ++ [(i, q, p)]) p' = if p' = p then (parts n T p).set i ((parts n T p)[i]?.getD 0 + q) else parts n T p' := by
 by_cases h : p' = p
 ·subst h
  rw [if_pos rfl]
  refine ext_getD (by simp [parts]) fun j hj => ?_
  have hj' : j < n := by simpa [parts] using hj
  rw [parts_get hj', part_app, parts_get hi, List.getElem?_set]
  by_cases hij : i = j
  ·subst hij
   simp [part, parts_len, hi]
  ·rw [if_neg hij, parts_get hj']
   simp [part, hij]
 ·rw [if_neg h]
  refine ext_getD (by simp [parts]) fun j hj => ?_
  have hj' : j < n := by simpa [parts] using hj
  rw [parts_get hj', parts_get hj', part_app]
  have : ¬ p = p' := fun e => h e.symm
  simp [part, this]
theorem qty_snoc {T : List Tr} {i : Nat} {q p : Int} (p' : Int) : qty (T ++ [(i, q, p)]) p' = if p' = p then qty T p + q else qty T p' := by
 rw [qty_app]
 by_cases h : p' = p
 ·subst h
  simp [qty]
 ·have : ¬ p = p' := fun e => h e.symm
  simp [qty, h, this]
theorem pr_snoc (T : List Tr) (t : Tr) : pr (T ++ [t]) = addP (pr T) t.2.2 := by simp [pr, List.foldl_append]
theorem mem_addP {ps : List Int} {p x : Int} : x ∈ addP ps p ↔ x ∈ ps ∨ x = p := by
 unfold addP
 split
 ·constructor
  ·exact Or.inl
  ·rintro (h | rfl)
   ·exact h
   ·assumption
 ·simp
theorem mem_fold : ∀ (T : List Tr) (a : List Int) (x : Int), x ∈ T.foldl (fun a t => addP a t.2.2) a ↔ x ∈ a ∨ ∃ t ∈ T, t.2.2 = x
 | [], a, x => by simp
 | t :: T, a, x => by
  rw [List.foldl_cons, mem_fold T, mem_addP]
  constructor
  ·rintro ((h | h) | ⟨s, h1, h2⟩)
   ·exact Or.inl h
   ·exact Or.inr ⟨t, List.mem_cons_self .., h.symm⟩
   ·exact Or.inr ⟨s, List.mem_cons_of_mem _ h1, h2⟩
  ·rintro (h | ⟨s, h1, h2⟩)
   ·exact Or.inl (Or.inl h)
   ·rcases List.mem_cons.1 h1 with rfl | h1
    ·exact Or.inl (Or.inr h2.symm)
    ·exact Or.inr ⟨s, h1, h2⟩
theorem mem_pr {T : List Tr} {x : Int} : x ∈ pr T ↔ ∃ t ∈ T, t.2.2 = x := by
 unfold pr
 rw [mem_fold]
 simp
theorem addP_nodup {ps : List Int} {p : Int} (h : ps.Nodup) : (addP ps p).Nodup := by
 unfold addP
 split
 ·exact h
 ·rename_i hp
  rw [List.nodup_append]
  exact ⟨h, by simp, fun a ha b hb => by simp at hb; subst hb; rintro rfl; exact hp ha⟩
theorem fold_nodup : ∀ (T : List Tr) (a : List Int), a.Nodup → (T.foldl (fun a t => addP a t.2.2) a).Nodup
 | [], a, h => h
 | t :: T, a, h => fold_nodup T _ (addP_nodup h)
theorem pr_nodup (T : List Tr) : (pr T).Nodup := fold_nodup T [] (by simp)
theorem qty_none {T : List Tr} {p : Int} (h : p ∉ pr T) : qty T p = 0 := by
 have : ∀ (S : List Tr), (∀ t ∈ S, t.2.2 ≠ p) → qty S p = 0 := by
  intro S
  induction S with
  | nil => intro _; rfl
  | cons t S ih =>
   intro hS
   rw [qty, if_neg (hS t (List.mem_cons_self ..)), ih fun s hs => hS s (List.mem_cons_of_mem _ hs)]
   rfl
 exact this T fun t ht e => h (mem_pr.2 ⟨t, ht, e⟩)
theorem part_none {T : List Tr} {p : Int} {i : Nat} (h : p ∉ pr T) : part T p i = 0 := by
 have : ∀ (S : List Tr), (∀ t ∈ S, t.2.2 ≠ p) → part S p i = 0 := by
  intro S
  induction S with
  | nil => intro _; rfl
  | cons t S ih =>
   intro hS
   rw [part, if_neg (fun e => hS t (List.mem_cons_self ..) e.1), ih fun s hs => hS s (List.mem_cons_of_mem _ hs)]
   rfl
 exact this T fun t ht e => h (mem_pr.2 ⟨t, ht, e⟩)
theorem parts_none {n : Nat} {T : List Tr} {p : Int} (h : p ∉ pr T) : parts n T p = List.replicate n 0 := by
 refine ext_getD (by simp [parts]) fun j hj => ?_
 have hj' : j < n := by simpa [parts] using hj
 rw [parts_get hj', part_none h]
 simp [hj']

/-- A level: price, quantity, parts. -/
abbrev Lv := Int × Int × List Int
def ltU (up : Bool) (a b : Int) : Prop := if up then a < b else b < a
/-- The stack of the steps T of n curves. -/
def IsLv (up : Bool) (n : Nat) (T : List Tr) (lv : List Lv) : Prop :=
 (lv.map (·.1)).Pairwise (ltU up) ∧ (∀ p, p ∈ lv.map (·.1) ↔ ∃ t ∈ T, t.2.2 = p) ∧ ∀ x ∈ lv, x.2.1 = qty T x.1 ∧ x.2.2 = parts n T x.1

theorem ltU_irr {up : Bool} {a : Int} : ¬ ltU up a a := by unfold ltU; split <;> omega
theorem ltU_asym {up : Bool} {a b : Int} (h : ltU up a b) : ¬ ltU up b a := by unfold ltU at *; split at h <;> rename_i hu <;> simp [hu] <;> omega
/-- Two lists that rise alike and hold the same are one. -/
theorem sorted_only {up : Bool} : ∀ {xs ys : List Int}, xs.Pairwise (ltU up) → ys.Pairwise (ltU up) → (∀ p, p ∈ xs ↔ p ∈ ys) → xs = ys
 | [], [], _, _, _ => rfl
 | [], y :: ys, _, _, h => absurd ((h y).2 (List.mem_cons_self ..)) (by simp)
 | x :: xs, [], _, _, h => absurd ((h x).1 (List.mem_cons_self ..)) (by simp)
 | x :: xs, y :: ys, hx, hy, h => by
  obtain ⟨a1, a2⟩ := List.pairwise_cons.1 hx
  obtain ⟨b1, b2⟩ := List.pairwise_cons.1 hy
  have e : x = y := by
   rcases List.mem_cons.1 ((h x).1 (List.mem_cons_self ..)) with e | hm
   ·exact e
   ·rcases List.mem_cons.1 ((h y).2 (List.mem_cons_self ..)) with e | hm'
    ·exact e.symm
    ·exact absurd (b1 x hm) (ltU_asym (a1 y hm'))
  subst e
  congr 1
  refine sorted_only a2 b2 fun p => ⟨fun hp => ?_, fun hp => ?_⟩
  ·rcases List.mem_cons.1 ((h p).1 (List.mem_cons_of_mem _ hp)) with e | hm
   ·subst e; exact absurd (a1 p hp) ltU_irr
   ·exact hm
  ·rcases List.mem_cons.1 ((h p).2 (List.mem_cons_of_mem _ hp)) with e | hm
   ·subst e; exact absurd (b1 p hp) ltU_irr
   ·exact hm
theorem IsLv.eq {up : Bool} {n : Nat} {T : List Tr} {lv : List Lv} (h : IsLv up n T lv) : lv = (lv.map (·.1)).map fun p => (p, qty T p, parts n T p) := by
 rw [List.map_map]
 have : ∀ x ∈ lv, ((fun p => (p, qty T p, parts n T p)) ∘ fun x : Lv => x.1) x = id x := fun x hx => by
  obtain ⟨h1, h2⟩ := h.2.2 x hx
  simp only [Function.comp, id]
  rw [← h1, ← h2]
 rw [List.map_congr_left this, List.map_id]
theorem IsLv.only {up : Bool} {n : Nat} {T : List Tr} {lv lv' : List Lv} (h : IsLv up n T lv) (h' : IsLv up n T lv') : lv = lv' := by
 have e := sorted_only h.1 h'.1 fun p => (h.2.1 p).trans (h'.2.1 p).symm
 have e1 := h.eq
 rw [e] at e1
 rw [e1]
 exact h'.eq.symm

end St
end Go.Proofs.YtjajigkacccdgaaGreat
