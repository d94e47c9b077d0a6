/-
Plain law of a search over hours: the cheapest continuation, of several the one with the least choice. Plain law of package commit: states, fixed costs, choices as numbers, the cost of a plan by hours and by units. No statement of the seat is proved here; no conditions beyond those of each theorem.
-/
import Derived.Test.YtdoeejcmaeefcaaGreatHN
namespace Go.Proofs.YtdoeejcmaeefcaaGreat
set_option linter.unusedVariables false
set_option linter.unusedSimpArgs false
namespace Cm

/-- The first least value among those of 0 .. n - 1. -/
def scan (f : Nat → Option Int) : Nat → Option (Nat × Int)
  | 0 => none
  | n + 1 =>
    match f n with
    | none => scan f n
    | some v =>
      match scan f n with
      | none => some (n, v)
      | some (c, x) => if v < x then some (n, v) else some (c, x)
theorem scan_none {f : Nat → Option Int} : ∀ {n : Nat}, scan f n = none ↔ ∀ c, c < n → f c = none
  | 0 => by simp [scan]
  | n + 1 => by
    have ih := scan_none (f := f) (n := n)
    rw [scan]
    constructor
    · intro h c hc
      split at h
      · rename_i e
        by_cases hcn : c = n
        · subst hcn; exact e
        · exact ih.1 h c (by omega)
      · split at h
        · simp at h
        · split at h <;> simp at h
    · intro h
      rw [h n (by omega)]
      exact ih.2 fun c hc => h c (by omega)
theorem scan_some {f : Nat → Option Int} : ∀ {n c : Nat} {v : Int}, scan f n = some (c, v) ↔ c < n ∧ f c = some v ∧ ∀ c' v', c' < n → f c' = some v' → v ≤ v' ∧ (c' < c → v < v')
  | 0, c, v => by simp [scan]
  | n + 1, c, v => by
    have ih := fun c v => scan_some (f := f) (n := n) (c := c) (v := v)
    have ihn := scan_none (f := f) (n := n)
    rw [scan]
    constructor
    · intro h
      split at h
      · rename_i e
        obtain ⟨h1, h2, h3⟩ := (ih c v).1 h
        refine ⟨by omega, h2, fun c' v' hc hv => ?_⟩
        by_cases hcn : c' = n
        · subst hcn; rw [e] at hv; simp at hv
        · exact h3 c' v' (by omega) hv
      · rename_i x e
        split at h
        · rename_i e2
          simp only [Option.some.injEq, Prod.mk.injEq] at h
          obtain ⟨rfl, rfl⟩ := h
          refine ⟨by omega, e, fun c' v' hc hv => ?_⟩
          by_cases hcn : c' = n
          · subst hcn
            rw [e] at hv
            simp only [Option.some.injEq] at hv
            omega
          · rw [ihn.1 e2 c' (by omega)] at hv
            simp at hv
        · rename_i c0 x0 e2
          obtain ⟨h1, h2, h3⟩ := (ih c0 x0).1 e2
          split at h
          · rename_i hlt
            simp only [Option.some.injEq, Prod.mk.injEq] at h
            obtain ⟨rfl, rfl⟩ := h
            refine ⟨by omega, e, fun c' v' hc hv => ?_⟩
            by_cases hcn : c' = n
            · subst hcn
              rw [e] at hv
              simp only [Option.some.injEq] at hv
              omega
            · have := (h3 c' v' (by omega) hv).1
              omega
          · rename_i hge
            simp only [Option.some.injEq, Prod.mk.injEq] at h
            obtain ⟨rfl, rfl⟩ := h
            refine ⟨by omega, h2, fun c' v' hc hv => ?_⟩
            by_cases hcn : c' = n
            · subst hcn
              rw [e] at hv
              simp only [Option.some.injEq] at hv
              omega
            · exact h3 c' v' (by omega) hv
    · rintro ⟨h1, h2, h3⟩
      split
      · rename_i e
        have hcn : c ≠ n := fun hh => by subst hh; rw [e] at h2; simp at h2
        exact (ih c v).2 ⟨by omega, h2, fun c' v' hc hv => h3 c' v' (by omega) hv⟩
      · rename_i x e
        have hx := h3 n x (by omega) e
        split
        · rename_i e2
          by_cases hcn : c = n
          · subst hcn
            rw [e] at h2
            simp only [Option.some.injEq] at h2
            rw [h2]
          · rw [ihn.1 e2 c (by omega)] at h2
            simp at h2
        · rename_i c0 x0 e2
          obtain ⟨g1, g2, g3⟩ := (ih c0 x0).1 e2
          have h30 := h3 c0 x0 (by omega) g2
          by_cases hcn : c = n
          · subst hcn
            rw [e] at h2
            simp only [Option.some.injEq] at h2
            have := h30.2 g1
            rw [if_pos (by omega), h2]
          · have g3c := g3 c v (by omega) h2
            have hne : ¬ x < x0 := fun hlt => by
              have := hx.1
              omega
            rw [if_neg hne]
            have e3 : v = x0 := by omega
            have e4 : c = c0 := by
              rcases Nat.lt_trichotomy c c0 with h | h | h
              · have := g3c.2 h; omega
              · exact h
              · have := h30.2 h; omega
            rw [e3, e4]
theorem scan_step {f : Nat → Option Int} (n : Nat) : scan f (n + 1) = match f n with
    | none => scan f n
    | some v => match scan f n with
      | none => some (n, v)
      | some (c, x) => if v < x then some (n, v) else some (c, x) := rfl

variable {H σ : Type}

/-- What a list of choices costs from a state on. -/
def pc (mv : H → σ → Nat → Option (σ × Int)) : List H → σ → List Nat → Option Int
  | [], _, [] => some 0
  | h :: hs, s, c :: cs =>
    match mv h s c with
    | none => none
    | some (s', k) =>
      match pc mv hs s' cs with
      | none => none
      | some v => some (k + v)
  | [], _, _ :: _ => none
  | _ :: _, _, [] => none
/-- The value of a choice, by the values of the continuations. -/
def val1 (mv : H → σ → Nat → Option (σ × Int)) (r : σ → Option (Nat × Int)) (h : H) (s : σ) (c : Nat) : Option Int :=
  match mv h s c with
  | none => none
  | some (s', k) =>
    match r s' with
    | none => none
    | some (_, v) => some (k + v)
/-- The cheapest continuation: its first choice and its cost. -/
def best (mv : H → σ → Nat → Option (σ × Int)) (N : Nat) : List H → σ → Option (Nat × Int)
  | [], _ => some (0, 0)
  | h :: hs, s => scan (val1 mv (best mv N hs) h s) N
/-- Its choices. -/
def plan (mv : H → σ → Nat → Option (σ × Int)) (N : Nat) : List H → σ → List Nat
  | [], _ => []
  | h :: hs, s =>
    match best mv N (h :: hs) s with
    | none => []
    | some (c, _) =>
      match mv h s c with
      | none => []
      | some (s', _) => c :: plan mv N hs s'
def lexle : List Nat → List Nat → Prop
  | [], [] => True
  | a :: x, b :: y => a < b ∨ (a = b ∧ lexle x y)
  | _, _ => False
theorem lexle_anti : ∀ {x y : List Nat}, lexle x y → lexle y x → x = y
  | [], [], _, _ => rfl
  | a :: x, b :: y, h, h' => by
    rcases h with h | ⟨h, h2⟩
    · rcases h' with h' | ⟨h', _⟩ <;> omega
    · rcases h' with h' | ⟨h', h3⟩
      · omega
      · rw [h, lexle_anti h2 h3]
  | [], _ :: _, h, _ => h.elim
  | _ :: _, [], h, _ => h.elim

theorem val1_some {mv : H → σ → Nat → Option (σ × Int)} {r : σ → Option (Nat × Int)} {h : H} {s : σ} {c : Nat} {v : Int} : val1 mv r h s c = some v ↔ ∃ s' k c' x, mv h s c = some (s', k) ∧ r s' = some (c', x) ∧ v = k + x := by
  unfold val1
  constructor
  · intro hv
    split at hv
    · simp at hv
    · rename_i s' k e
      split at hv
      · simp at hv
      · rename_i c' x e2
        simp only [Option.some.injEq] at hv
        exact ⟨s', k, c', x, e, e2, hv.symm⟩
  · rintro ⟨s', k, c', x, e, e2, rfl⟩
    rw [e]
    simp only [e2]
theorem pc_cons {mv : H → σ → Nat → Option (σ × Int)} {h : H} {hs : List H} {s : σ} {c : Nat} {cs : List Nat} {v : Int} : pc mv (h :: hs) s (c :: cs) = some v ↔ ∃ s' k x, mv h s c = some (s', k) ∧ pc mv hs s' cs = some x ∧ v = k + x := by
  rw [pc]
  constructor
  · intro hv
    split at hv
    · simp at hv
    · rename_i s' k e
      split at hv
      · simp at hv
      · rename_i x e2
        simp only [Option.some.injEq] at hv
        exact ⟨s', k, x, e, e2, hv.symm⟩
  · rintro ⟨s', k, x, e, e2, rfl⟩
    rw [e]
    simp only [e2]
theorem pc_len {mv : H → σ → Nat → Option (σ × Int)} : ∀ {hs : List H} {s : σ} {cs : List Nat} {v : Int}, pc mv hs s cs = some v → cs.length = hs.length
  | [], _, [], _, _ => rfl
  | h :: hs, s, c :: cs, v, e => by
    obtain ⟨s', k, x, _, e2, _⟩ := pc_cons.1 e
    rw [List.length_cons, List.length_cons, pc_len e2]
  | [], _, _ :: _, _, e => by simp [pc] at e
  | _ :: _, _, [], _, e => by simp [pc] at e

/-- What the search finds. -/
theorem best_opt {mv : H → σ → Nat → Option (σ × Int)} {N : Nat} : ∀ {hs : List H} {s : σ},
    (best mv N hs s = none → ∀ cs, (∀ c ∈ cs, c < N) → pc mv hs s cs = none) ∧
    (∀ c v, best mv N hs s = some (c, v) → pc mv hs s (plan mv N hs s) = some v ∧ (∀ d ∈ plan mv N hs s, d < N) ∧ ∀ cs v', (∀ d ∈ cs, d < N) → pc mv hs s cs = some v' → v ≤ v' ∧ (v = v' → lexle (plan mv N hs s) cs))
  | [], s => by
    refine ⟨fun h => by simp [best] at h, fun c v h => ?_⟩
    simp only [best, Option.some.injEq, Prod.mk.injEq] at h
    obtain ⟨_, rfl⟩ := h
    refine ⟨rfl, fun d hd => by simp [plan] at hd, fun cs v' _ hv => ?_⟩
    cases cs with
    | nil =>
      simp only [pc, Option.some.injEq] at hv
      exact ⟨by omega, fun _ => trivial⟩
    | cons a cs => simp [pc] at hv
  | h :: hs, s => by
    constructor
    · intro hn cs hcs
      cases cs with
      | nil => rfl
      | cons c cs =>
        have hc := (scan_none.1 hn) c (hcs c (List.mem_cons_self ..))
        cases e : pc mv (h :: hs) s (c :: cs) with
        | none => rfl
        | some v =>
          obtain ⟨s', k, x, e1, e2, e3⟩ := pc_cons.1 e
          cases e4 : best mv N hs s' with
          | none =>
            rw [(best_opt (hs := hs) (s := s')).1 e4 cs fun d hd => hcs d (List.mem_cons_of_mem _ hd)] at e2
            simp at e2
          | some b =>
            have := val1_some.2 ⟨s', k, b.1, b.2, e1, e4, rfl⟩
            rw [hc] at this
            simp at this
    · intro c v hb
      obtain ⟨h1, h2, h3⟩ := scan_some.1 hb
      obtain ⟨s', k, c', x, e1, e2, e3⟩ := val1_some.1 h2
      obtain ⟨i1, i2, i3⟩ := (best_opt (hs := hs) (s := s')).2 c' x e2
      have ep : plan mv N (h :: hs) s = c :: plan mv N hs s' := by
        rw [plan, hb]
        simp only [e1]
      rw [ep]
      refine ⟨pc_cons.2 ⟨s', k, x, e1, i1, e3⟩, fun d hd => ?_, fun cs v' hcs hv => ?_⟩
      · rcases List.mem_cons.1 hd with rfl | hd
        · exact h1
        · exact i2 d hd
      · cases cs with
        | nil => simp [pc] at hv
        | cons c2 cs =>
          obtain ⟨s2, k2, x2, f1, f2, f3⟩ := pc_cons.1 hv
          have hc2 := hcs c2 (List.mem_cons_self ..)
          have hcs2 : ∀ d ∈ cs, d < N := fun d hd => hcs d (List.mem_cons_of_mem _ hd)
          cases e4 : best mv N hs s2 with
          | none =>
            rw [(best_opt (hs := hs) (s := s2)).1 e4 cs hcs2] at f2
            simp at f2
          | some b =>
            obtain ⟨c4, b2⟩ := b
            obtain ⟨j1, j2, j3⟩ := (best_opt (hs := hs) (s := s2)).2 c4 b2 e4
            have k1 := h3 c2 (k2 + b2) hc2 (val1_some.2 ⟨s2, k2, c4, b2, f1, e4, rfl⟩)
            have k3 := (j3 cs x2 hcs2 f2).1
            refine ⟨by omega, fun hv2 => ?_⟩
            rcases Nat.lt_trichotomy c c2 with hlt | heq | hgt
            · exact Or.inl hlt
            · subst heq
              rw [e1] at f1
              simp only [Option.some.injEq, Prod.mk.injEq] at f1
              obtain ⟨rfl, rfl⟩ := f1
              exact Or.inr ⟨rfl, (i3 cs x2 hcs2 f2).2 (by omega)⟩
            · have := k1.2 hgt
              omega
/-- A list of choices that is as good and as early as every other is the plan. -/
theorem plan_only {mv : H → σ → Nat → Option (σ × Int)} {N : Nat} {hs : List H} {s : σ} {cs : List Nat} {v : Int} (hc : ∀ c ∈ cs, c < N) (h : pc mv hs s cs = some v) (hm : ∀ ds v', (∀ d ∈ ds, d < N) → pc mv hs s ds = some v' → v ≤ v' ∧ (v = v' → lexle cs ds)) :
    cs = plan mv N hs s ∧ ∃ c, best mv N hs s = some (c, v) := by
  cases e : best mv N hs s with
  | none =>
    rw [(best_opt (hs := hs) (s := s)).1 e cs hc] at h
    simp at h
  | some b =>
    obtain ⟨c, x⟩ := b
    obtain ⟨i1, i2, i3⟩ := (best_opt (hs := hs) (s := s)).2 c x e
    have h1 := i3 cs v hc h
    have h2 := hm _ x i2 i1
    have e1 : x = v := by omega
    refine ⟨lexle_anti (h2.2 e1.symm) (h1.2 e1), c, by rw [e1]⟩
/-- The rest of the best plan is the best plan of the rest. -/
theorem plan_cons {mv : H → σ → Nat → Option (σ × Int)} {N : Nat} {h : H} {hs : List H} {s : σ} {c : Nat} {v : Int} (hb : best mv N (h :: hs) s = some (c, v)) : ∃ s' k c' x, mv h s c = some (s', k) ∧ best mv N hs s' = some (c', x) ∧ v = k + x ∧ plan mv N (h :: hs) s = c :: plan mv N hs s' ∧ c < N := by
  obtain ⟨h1, h2, h3⟩ := scan_some.1 hb
  obtain ⟨s', k, c', x, e1, e2, e3⟩ := val1_some.1 h2
  refine ⟨s', k, c', x, e1, e2, e3, ?_, h1⟩
  rw [plan, hb]
  simp only [e1]

end Cm
end Go.Proofs.YtdoeejcmaeefcaaGreat

namespace Go.Proofs.YtdoeejcmaeefcaaGreat
set_option linter.unusedVariables false
set_option linter.unusedSimpArgs false
open Go.RowKit
open Wd
namespace Cm

/-- A unit's state one hour later. -/
def unext (u : Un) (s : Int) (b : Bool) : Option Int :=
  if b = true ∧ 0 < s then some (min (s + 1) u.up)
  else if b = true ∧ s = -u.dn then some 1
  else if b = false ∧ s < 0 then some (max (s - 1) (-u.dn))
  else if b = false ∧ s = u.up then some (-1)
  else none
def uinit (u : Un) : Int := max (min u.on u.up) (-u.dn)
/-- States that a valid unit can have. -/
def StOk (u : Un) (s : Int) : Prop := s ≠ 0 ∧ -u.dn ≤ s ∧ s ≤ u.up
theorem uchk_rest {u : Un} (h : uchk u = 0) : 1 ≤ u.up ∧ u.up ≤ 6 ∧ 1 ≤ u.dn ∧ u.dn ≤ 6 ∧ 0 ≤ u.start ∧ u.start ≤ 1000000000 ∧ 0 ≤ u.idle ∧ u.idle ≤ 1000000000 ∧ u.on ≠ 0 ∧ -6 ≤ u.on ∧ u.on ≤ 6 := by
  unfold uchk at h
  split at h
  · simp at h
  · split at h
    · rename_i h1 h2
      exact absurd h h2
    · split at h
      · simp at h
      · split at h
        · simp at h
        · rename_i hr
          unfold uRest at hr
          omega
theorem uinit_ok {u : Un} (h : uchk u = 0) : StOk u (uinit u) := by
  have := uchk_rest h
  unfold StOk uinit
  omega
theorem uinit_pos {u : Un} (h : uchk u = 0) : 0 < uinit u ↔ 0 < u.on := by
  have := uchk_rest h
  unfold uinit
  omega
theorem unext_ok {u : Un} (h : uchk u = 0) {s t : Int} {b : Bool} (hs : StOk u s) (hn : unext u s b = some t) : StOk u t ∧ (b = true ↔ 0 < t) := by
  have := uchk_rest h
  unfold StOk at *
  unfold unext at hn
  cases b
  · rw [if_neg (by simp), if_neg (by simp)] at hn
    split at hn
    · simp only [Option.some.injEq] at hn
      exact ⟨by omega, by simp; omega⟩
    · split at hn
      · simp only [Option.some.injEq] at hn
        exact ⟨by omega, by simp; omega⟩
      · simp at hn
  · split at hn
    · simp only [Option.some.injEq] at hn
      exact ⟨by omega, by simp; omega⟩
    · split at hn
      · simp only [Option.some.injEq] at hn
        exact ⟨by omega, by simp; omega⟩
      · rw [if_neg (by simp), if_neg (by simp)] at hn
        simp at hn

def ufeas (u : Un) : Int → List Bool → Bool
  | _, [] => true
  | s, b :: r => match unext u s b with
    | none => false
    | some t => ufeas u t r
/-- What an hour costs a unit beside its energy. -/
def ufx (u : Un) (s : Int) (b : Bool) : Int := if b = true then u.idle + (if s < 0 then u.start else 0) else 0
def ufix (u : Un) : Int → List Bool → Int
  | _, [] => 0
  | s, b :: r => ufx u s b + match unext u s b with
    | none => 0
    | some t => ufix u t r
def ustarts : Bool → List Bool → Int
  | _, [] => 0
  | p, b :: r => (if b = true ∧ p = false then 1 else 0) + ustarts b r
def uon : List Bool → Int
  | [] => 0
  | b :: r => (if b = true then 1 else 0) + uon r
/-- The fixed cost of a schedule as the code sums it. -/
def ucost (u : Un) (r : List Bool) : Int := u.start * ustarts (decide (0 < u.on)) r + u.idle * uon r
theorem ufix_eq {u : Un} (h : uchk u = 0) : ∀ {r : List Bool} {s : Int}, StOk u s → ufeas u s r = true → ufix u s r = u.start * ustarts (decide (0 < s)) r + u.idle * uon r
  | [], s, _, _ => by simp [ufix, ustarts, uon]
  | b :: r, s, hs, hf => by
    rw [ufeas] at hf
    cases e : unext u s b with
    | none => rw [e] at hf; simp at hf
    | some t =>
      rw [e] at hf
      simp only at hf
      obtain ⟨h1, h2⟩ := unext_ok h hs e
      have ih := ufix_eq h h1 hf
      have ed : decide (0 < t) = b := by
        cases b
        · have : ¬ 0 < t := fun hh => by simpa using h2.2 hh
          simp [this]
        · have := h2.1 rfl
          simp [this]
      rw [ed] at ih
      rw [ufix, e, ustarts, uon]
      simp only [ih]
      have hs0 := hs.1
      unfold ufx
      rw [Int.mul_add, Int.mul_add]
      cases b
      · simp
      · by_cases hp : 0 < s
        · rw [if_neg (show ¬ s < 0 by omega)]
          simp [hp]
          omega
        · rw [if_pos (show s < 0 by omega)]
          simp [hp]
          omega
theorem ucost_eq {u : Un} (h : uchk u = 0) {r : List Bool} (hf : ufeas u (uinit u) r = true) : ucost u r = ufix u (uinit u) r := by
  rw [ufix_eq h (uinit_ok h) hf]
  unfold ucost
  rw [decide_eq_decide.2 (uinit_pos h)]

/-- Sums of the first n. -/
def sumN (f : Nat → Int) : Nat → Int
  | 0 => 0
  | n + 1 => sumN f n + f n
theorem sumN_congr {f g : Nat → Int} : ∀ {n : Nat}, (∀ i, i < n → f i = g i) → sumN f n = sumN g n
  | 0, _ => rfl
  | n + 1, h => by rw [sumN, sumN, sumN_congr fun i hi => h i (by omega), h n (by omega)]
theorem sumN_add (f g : Nat → Int) : ∀ n, sumN (fun i => f i + g i) n = sumN f n + sumN g n
  | 0 => rfl
  | n + 1 => by rw [sumN, sumN, sumN, sumN_add f g n]; omega
theorem sumN_zero : ∀ n, sumN (fun _ => 0) n = 0
  | 0 => rfl
  | n + 1 => by rw [sumN, sumN_zero n]; rfl

/-- The bits of a choice, the first unit's highest. -/
def bitN (n c i : Nat) : Bool := c.testBit (n - 1 - i)
def bitsN (n c : Nat) : List Bool := (List.range n).map (bitN n c)
theorem bitsN_len (n c : Nat) : (bitsN n c).length = n := by simp [bitsN]
theorem bitsN_get {n c i : Nat} (hi : i < n) : (bitsN n c)[i]?.getD false = bitN n c i := by simp [bitsN, hi]
theorem ext_b {x y : List Bool} (hl : x.length = y.length) (h : ∀ i, i < x.length → x[i]?.getD false = y[i]?.getD false) : x = y := by
  apply List.ext_getElem hl
  intro i h1 h2
  have := h i h1
  rw [List.getElem?_eq_getElem h1, List.getElem?_eq_getElem h2] at this
  exact this
/-- The number of a row. -/
def num : List Bool → Nat
  | [] => 0
  | b :: r => (if b then 2 ^ r.length else 0) + num r
theorem num_lt : ∀ r : List Bool, num r < 2 ^ r.length
  | [] => by simp [num]
  | b :: r => by
    have := num_lt r
    rw [num, List.length_cons, Nat.pow_succ]
    split <;> omega
theorem bitN_num : ∀ {r : List Bool} {i : Nat}, i < r.length → bitN r.length (num r) i = r[i]?.getD false
  | [], i, h => by simp at h
  | b :: r, 0, _ => by
    have := num_lt r
    unfold bitN
    rw [List.length_cons, num, show r.length + 1 - 1 - 0 = r.length by omega]
    cases b
    · simp only [Bool.false_eq_true, if_false, Nat.zero_add, List.getElem?_cons_zero, Option.getD_some]
      exact Nat.testBit_lt_two_pow this
    · simp only [if_true, List.getElem?_cons_zero, Option.getD_some]
      rw [Nat.testBit_two_pow_add_eq, Nat.testBit_lt_two_pow this]
      rfl
  | b :: r, i + 1, h => by
    have hi : i < r.length := by simpa using h
    have ih := bitN_num hi
    have hl := num_lt r
    unfold bitN at *
    rw [List.length_cons, num, show r.length + 1 - 1 - (i + 1) = r.length - 1 - i by omega, List.getElem?_cons_succ, ← ih]
    cases b
    · simp
    · simp only [if_true]
      rw [Nat.testBit_two_pow_add_gt (by omega)]
theorem bitsN_num {n : Nat} {r : List Bool} (h : r.length = n) : bitsN n (num r) = r := by
  subst h
  exact ext_b (bitsN_len _ _) fun i hi => by rw [bitsN_get (by simpa [bitsN] using hi), bitN_num (by simpa [bitsN] using hi)]
theorem num_bitsN {n c : Nat} (h : c < 2 ^ n) : num (bitsN n c) = c := by
  apply Nat.eq_of_testBit_eq
  intro j
  have hl : (bitsN n c).length = n := bitsN_len n c
  by_cases hj : j < n
  · have e := bitN_num (r := bitsN n c) (i := n - 1 - j) (by omega)
    rw [bitsN_get (by omega), hl] at e
    unfold bitN at e
    rw [show n - 1 - (n - 1 - j) = j by omega] at e
    exact e
  · have h1 := num_lt (bitsN n c)
    rw [hl] at h1
    rw [Nat.testBit_lt_two_pow (Nat.lt_of_lt_of_le h1 (Nat.pow_le_pow_right (by decide) (by omega))), Nat.testBit_lt_two_pow (Nat.lt_of_lt_of_le h (Nat.pow_le_pow_right (by decide) (by omega)))]
/-- Of two rows of the same length that with the smaller number is false where they first differ. -/
def lexB : List Bool → List Bool → Prop
  | [], [] => False
  | a :: x, b :: y => (a = false ∧ b = true) ∨ (a = b ∧ lexB x y)
  | _, _ => False
theorem num_lex : ∀ {x y : List Bool}, x.length = y.length → num x < num y → lexB x y
  | [], [], _, h => by simp [num] at h
  | a :: x, b :: y, hl, h => by
    have hl' : x.length = y.length := by simpa using hl
    have h1 := num_lt x
    have h2 := num_lt y
    rw [num, num, hl'] at h
    rw [hl'] at h1
    cases a <;> cases b <;> simp only [Bool.false_eq_true, if_false, if_true] at h
    · exact Or.inr ⟨rfl, num_lex hl' (by omega)⟩
    · exact Or.inl ⟨rfl, rfl⟩
    · omega
    · exact Or.inr ⟨rfl, num_lex hl' (by omega)⟩
  | [], _ :: _, h, _ => by simp at h
  | _ :: _, [], h, _ => by simp at h

/-- The states and the fixed cost after an hour, unit by unit. -/
def mvK (us : List Un) (ss : List Int) (bs : List Bool) : Nat → Option (List Int × Int)
  | 0 => some ([], 0)
  | k + 1 => match mvK us ss bs k with
    | none => none
    | some (r, x) => match unext (us[k]?.getD U0) (ss[k]?.getD 0) (bs[k]?.getD false) with
      | none => none
      | some t => some (r ++ [t], x + ufx (us[k]?.getD U0) (ss[k]?.getD 0) (bs[k]?.getD false))
theorem mvK_iff {us : List Un} {ss : List Int} {bs : List Bool} : ∀ {k : Nat} {r : List Int} {x : Int}, mvK us ss bs k = some (r, x) ↔ r.length = k ∧ (∀ i, i < k → unext (us[i]?.getD U0) (ss[i]?.getD 0) (bs[i]?.getD false) = some (r[i]?.getD 0)) ∧ x = sumN (fun i => ufx (us[i]?.getD U0) (ss[i]?.getD 0) (bs[i]?.getD false)) k
  | 0, r, x => by
    rw [mvK]
    constructor
    · intro h
      simp only [Option.some.injEq, Prod.mk.injEq] at h
      obtain ⟨rfl, rfl⟩ := h
      exact ⟨rfl, fun i hi => absurd hi (by omega), rfl⟩
    · rintro ⟨h1, _, rfl⟩
      rw [List.eq_nil_of_length_eq_zero h1]
      rfl
  | k + 1, r, x => by
    rw [mvK]
    constructor
    · intro h
      split at h
      · simp at h
      · rename_i r0 x0 e
        obtain ⟨i1, i2, i3⟩ := mvK_iff.1 e
        split at h
        · simp at h
        · rename_i t e2
          simp only [Option.some.injEq, Prod.mk.injEq] at h
          obtain ⟨rfl, rfl⟩ := h
          refine ⟨by simp [i1], fun i hi => ?_, by rw [sumN, ← i3]⟩
          by_cases hik : i < k
          · rw [List.getElem?_append_left (by omega)]
            exact i2 i hik
          · obtain rfl : i = k := by omega
            rw [List.getElem?_append_right (by omega), i1, Nat.sub_self]
            exact e2
    · rintro ⟨h1, h2, rfl⟩
      have hr : r = r.take k ++ [r[k]?.getD 0] := by
        have hk : k < r.length := by omega
        have h9 : r.take (k + 1) = r := by rw [← h1]; exact List.take_length
        have h8 : r.take (k + 1) = r.take k ++ [r[k]] := by rw [List.take_add_one, List.getElem?_eq_getElem hk]; rfl
        rw [List.getElem?_eq_getElem hk]
        exact h9.symm.trans h8
      have e : mvK us ss bs k = some (r.take k, sumN (fun i => ufx (us[i]?.getD U0) (ss[i]?.getD 0) (bs[i]?.getD false)) k) := mvK_iff.2 ⟨by rw [List.length_take]; omega, fun i hi => by
        rw [List.getElem?_take_of_lt hi]
        exact h2 i (by omega), rfl⟩
      rw [e]
      simp only [h2 k (by omega)]
      rw [← hr]
      rfl

/-- The energy costs of an hour by choice; none where the units that are on do not suffice. -/
abbrev Row := List (Option Int)
def mv (us : List Un) (h : Row) (ss : List Int) (c : Nat) : Option (List Int × Int) :=
  match h[c]?.getD none with
  | none => none
  | some k => match mvK us ss (bitsN us.length c) us.length with
    | none => none
    | some (r, x) => some (r, k + x)
theorem mv_iff {us : List Un} {h : Row} {ss : List Int} {c : Nat} {r : List Int} {x : Int} : mv us h ss c = some (r, x) ↔ ∃ k, h[c]?.getD none = some k ∧ r.length = us.length ∧
    (∀ i, i < us.length → unext (us[i]?.getD U0) (ss[i]?.getD 0) (bitN us.length c i) = some (r[i]?.getD 0)) ∧ x = k + sumN (fun i => ufx (us[i]?.getD U0) (ss[i]?.getD 0) (bitN us.length c i)) us.length := by
  have key : ∀ {r : List Int} {y : Int}, mvK us ss (bitsN us.length c) us.length = some (r, y) ↔ r.length = us.length ∧ (∀ i, i < us.length → unext (us[i]?.getD U0) (ss[i]?.getD 0) (bitN us.length c i) = some (r[i]?.getD 0)) ∧ y = sumN (fun i => ufx (us[i]?.getD U0) (ss[i]?.getD 0) (bitN us.length c i)) us.length := by
    intro r y
    rw [mvK_iff]
    have e : sumN (fun i => ufx (us[i]?.getD U0) (ss[i]?.getD 0) ((bitsN us.length c)[i]?.getD false)) us.length = sumN (fun i => ufx (us[i]?.getD U0) (ss[i]?.getD 0) (bitN us.length c i)) us.length := sumN_congr fun i hi => by rw [bitsN_get hi]
    rw [e]
    constructor
    · rintro ⟨h1, h2, h3⟩
      exact ⟨h1, fun i hi => by rw [← bitsN_get hi]; exact h2 i hi, h3⟩
    · rintro ⟨h1, h2, h3⟩
      exact ⟨h1, fun i hi => by rw [bitsN_get hi]; exact h2 i hi, h3⟩
  unfold mv
  constructor
  · intro hm
    split at hm
    · simp at hm
    · rename_i k e
      split at hm
      · simp at hm
      · rename_i r0 y e2
        simp only [Option.some.injEq, Prod.mk.injEq] at hm
        obtain ⟨rfl, rfl⟩ := hm
        obtain ⟨j1, j2, j3⟩ := key.1 e2
        exact ⟨k, e, j1, j2, by rw [j3]⟩
  · rintro ⟨k, e, j1, j2, rfl⟩
    rw [e]
    simp only [key.2 ⟨j1, j2, rfl⟩]

/-- The schedule of unit i in a plan of choices. -/
def colC (n : Nat) (cs : List Nat) (i : Nat) : List Bool := cs.map fun c => bitN n c i
def supC : List Row → List Nat → Option Int
  | [], [] => some 0
  | h :: hs, c :: cs => match h[c]?.getD none with
    | none => none
    | some k => match supC hs cs with
      | none => none
      | some v => some (k + v)
  | _, _ => none
theorem supC_cons {h : Row} {hs : List Row} {c : Nat} {cs : List Nat} {v : Int} : supC (h :: hs) (c :: cs) = some v ↔ ∃ k x, h[c]?.getD none = some k ∧ supC hs cs = some x ∧ v = k + x := by
  rw [supC]
  constructor
  · intro hv
    split at hv
    · simp at hv
    · rename_i k e
      split at hv
      · simp at hv
      · rename_i x e2
        simp only [Option.some.injEq] at hv
        exact ⟨k, x, e, e2, hv.symm⟩
  · rintro ⟨k, x, e, e2, rfl⟩
    rw [e]
    simp only [e2]
/-- A plan's cost by hours is its cost by units. -/
theorem pc_iff {us : List Un} : ∀ {hs : List Row} {ss : List Int} {cs : List Nat} {v : Int}, pc (mv us) hs ss cs = some v ↔ ∃ e, supC hs cs = some e ∧ (∀ i, i < us.length → ufeas (us[i]?.getD U0) (ss[i]?.getD 0) (colC us.length cs i) = true) ∧ v = e + sumN (fun i => ufix (us[i]?.getD U0) (ss[i]?.getD 0) (colC us.length cs i)) us.length
  | [], ss, [], v => by
    have e : sumN (fun i => ufix (us[i]?.getD U0) (ss[i]?.getD 0) (colC us.length [] i)) us.length = 0 := by
      exact (sumN_congr (g := fun _ => 0) fun i _ => rfl).trans (sumN_zero _)
    rw [e]
    simp only [pc, supC, colC, List.map_nil, ufeas]
    constructor
    · intro h
      simp only [Option.some.injEq] at h
      exact ⟨0, rfl, fun _ _ => trivial, by omega⟩
    · rintro ⟨e, he, _, hv⟩
      simp only [Option.some.injEq] at he ⊢
      omega
  | h :: hs, ss, c :: cs, v => by
    rw [pc_cons]
    constructor
    · rintro ⟨s', k, x, h1, h2, rfl⟩
      obtain ⟨k0, g0, g1, g2, rfl⟩ := mv_iff.1 h1
      obtain ⟨e, f1, f2, rfl⟩ := pc_iff.1 h2
      refine ⟨k0 + e, supC_cons.2 ⟨k0, e, g0, f1, rfl⟩, fun i hi => ?_, ?_⟩
      · have := g2 i hi
        simp only [colC, List.map_cons, ufeas, this]
        exact f2 i hi
      · have key : sumN (fun i => ufix (us[i]?.getD U0) (ss[i]?.getD 0) (colC us.length (c :: cs) i)) us.length = sumN (fun i => ufx (us[i]?.getD U0) (ss[i]?.getD 0) (bitN us.length c i)) us.length + sumN (fun i => ufix (us[i]?.getD U0) (s'[i]?.getD 0) (colC us.length cs i)) us.length := by
          rw [← sumN_add]
          refine sumN_congr fun i hi => ?_
          have := g2 i hi
          simp only [colC, List.map_cons, ufix, this]
        rw [key]
        omega
    · rintro ⟨e, h1, h2, rfl⟩
      obtain ⟨k0, x, g0, g1, rfl⟩ := supC_cons.1 h1
      have hall : ∀ i, i < us.length → ∃ t, unext (us[i]?.getD U0) (ss[i]?.getD 0) (bitN us.length c i) = some t ∧ ufeas (us[i]?.getD U0) t (colC us.length cs i) = true := fun i hi => by
        have := h2 i hi
        simp only [colC, List.map_cons, ufeas] at this
        cases e : unext (us[i]?.getD U0) (ss[i]?.getD 0) (bitN us.length c i) with
        | none => rw [e] at this; simp at this
        | some t => rw [e] at this; exact ⟨t, rfl, this⟩
      let s' : List Int := (List.range us.length).map fun i => (unext (us[i]?.getD U0) (ss[i]?.getD 0) (bitN us.length c i)).getD 0
      have hs' : ∀ i, i < us.length → s'[i]?.getD 0 = (unext (us[i]?.getD U0) (ss[i]?.getD 0) (bitN us.length c i)).getD 0 := fun i hi => by simp [s', hi]
      refine ⟨s', k0 + sumN (fun i => ufx (us[i]?.getD U0) (ss[i]?.getD 0) (bitN us.length c i)) us.length, x + sumN (fun i => ufix (us[i]?.getD U0) (s'[i]?.getD 0) (colC us.length cs i)) us.length, mv_iff.2 ⟨k0, g0, by simp [s'], fun i hi => ?_, rfl⟩, pc_iff.2 ⟨x, g1, fun i hi => ?_, rfl⟩, ?_⟩
      · obtain ⟨t, e, _⟩ := hall i hi
        rw [hs' i hi, e]
        rfl
      · obtain ⟨t, e, f⟩ := hall i hi
        rw [hs' i hi, e]
        exact f
      · have key : sumN (fun i => ufix (us[i]?.getD U0) (ss[i]?.getD 0) (colC us.length (c :: cs) i)) us.length = sumN (fun i => ufx (us[i]?.getD U0) (ss[i]?.getD 0) (bitN us.length c i)) us.length + sumN (fun i => ufix (us[i]?.getD U0) (s'[i]?.getD 0) (colC us.length cs i)) us.length := by
          rw [← sumN_add]
          refine sumN_congr fun i hi => ?_
          obtain ⟨t, e, _⟩ := hall i hi
          rw [hs' i hi]
          simp only [colC, List.map_cons, ufix, e, Option.getD_some]
        rw [key]
        omega
  | [], _, _ :: _, v => by
    constructor
    · intro h; simp [pc] at h
    · rintro ⟨e, h, _⟩; simp [supC] at h
  | _ :: _, _, [], v => by
    constructor
    · intro h; simp [pc] at h
    · rintro ⟨e, h, _⟩; simp [supC] at h

end Cm
end Go.Proofs.YtdoeejcmaeefcaaGreat
