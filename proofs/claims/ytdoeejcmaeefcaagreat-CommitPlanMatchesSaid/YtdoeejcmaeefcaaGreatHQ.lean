/-
Plain law of package commit: hours, the cost of a plan, the commitment, and what the statements say of it. Plain law of package commit: the least cost is always reached, an additional unit, the commitment of the remaining hours. Plain law of package commit: the commitment of the remaining hours. No statement of the seat is proved here; no conditions beyond those of each theorem.
-/
import Derived.Test.YtdoeejcmaeefcaaGreatHO
import Derived.Test.YtdoeejcmaeefcaaGreatJM1
namespace Go.Proofs.YtdoeejcmaeefcaaGreat
set_option linter.unusedVariables false
set_option linter.unusedSimpArgs false
open Go.RowKit
open Wd
namespace Cm

/-- An hour: its bids (bus, steps) and its reserve requirement. -/
structure Hr where
  bids : List (Int × List (Int × Int))
  need : Int
def Hr0 : Hr := ⟨[], 0⟩
def bchk : List (Int × List (Int × Int)) → Int
  | [] => 0
  | b :: r => if b.1 < 0 ∨ 6 ≤ b.1 then 1 else if chk false b.2 ≠ 0 then chk false b.2 else bchk r
def hchk (h : Hr) : Int := if 6 < h.bids.length then 5 else if bchk h.bids ≠ 0 then bchk h.bids else if h.need < 0 ∨ 1000000 < h.need then 1 else 0
def hcFrom : List Hr → Int
  | [] => 0
  | h :: r => if hchk h = 0 then hcFrom r else hchk h
def cchk (us : List Un) (hs : List Hr) : Int := if 5 < us.length then 5 else if ecFrom us ≠ 0 then ecFrom us else if hs.length = 0 then 4 else if 8 < hs.length then 5 else hcFrom hs
def sumL : List Int → Int
  | [] => 0
  | x :: xs => x + sumL xs
def firmS (l : List (Int × Int)) : Int := sumL (l.map fun s => if s.2 = 1000000 then s.1 else 0)
def firm (h : Hr) : Int := if hchk h = 0 then sumL (h.bids.map fun b => firmS b.2) else 0
theorem hcFrom_ok : ∀ {hs : List Hr}, hcFrom hs = 0 ↔ ∀ h ∈ hs, hchk h = 0
  | [] => by simp [hcFrom]
  | h :: r => by
    have ih := hcFrom_ok (hs := r)
    rw [hcFrom]
    by_cases e : hchk h = 0
    · rw [if_pos e, ih]; simp [e]
    · rw [if_neg e]; simp [e]
theorem ecFrom_iff : ∀ {us : List Un}, ecFrom us = 0 ↔ ∀ u ∈ us, uchk u = 0
  | [] => by simp [ecFrom]
  | u :: r => by
    have ih := ecFrom_iff (us := r)
    rw [ecFrom]
    by_cases e : uchk u = 0
    · rw [if_pos e, ih]; simp [e]
    · rw [if_neg e]; simp [e]
theorem cchk_ok {us : List Un} {hs : List Hr} : cchk us hs = 0 ↔ us.length ≤ 5 ∧ (∀ u ∈ us, uchk u = 0) ∧ hs.length ≠ 0 ∧ hs.length ≤ 8 ∧ ∀ h ∈ hs, hchk h = 0 := by
  unfold cchk
  by_cases h1 : 5 < us.length
  · rw [if_pos h1]; constructor
    · intro h; simp at h
    · rintro ⟨h, _⟩; omega
  · rw [if_neg h1]
    by_cases h2 : ecFrom us ≠ 0
    · rw [if_pos h2]; constructor
      · intro h; exact absurd h h2
      · rintro ⟨_, h, _⟩; exact absurd (ecFrom_iff.2 h) h2
    · rw [if_neg h2]
      by_cases h3 : hs.length = 0
      · rw [if_pos h3]; constructor
        · intro h; simp at h
        · rintro ⟨_, _, h, _⟩; exact absurd h3 h
      · rw [if_neg h3]
        by_cases h4 : 8 < hs.length
        · rw [if_pos h4]; constructor
          · intro h; simp at h
          · rintro ⟨_, _, _, h, _⟩; omega
        · rw [if_neg h4, hcFrom_ok]
          exact ⟨fun h => ⟨by omega, ecFrom_iff.1 (Classical.not_not.1 h2), h3, by omega, h⟩, fun h => h.2.2.2.2⟩

/-- The energy cost of an hour; none where the units that are on do not suffice. -/
noncomputable def supH (us : List Un) (h : Hr) (bs : List Bool) : Option Int := if rmin (us.zip bs) ≤ firm h ∧ firm h + h.need ≤ rmax (us.zip bs) then some (lcV us bs us.length (firm h)) else none
noncomputable def rowOf (us : List Un) (h : Hr) : Row := (List.range (2 ^ us.length)).map fun c => supH us h (bitsN us.length c)
noncomputable def rowsOf (us : List Un) (hs : List Hr) : List Row := hs.map (rowOf us)
def initS (us : List Un) : List Int := us.map uinit
noncomputable def bestV (us : List Un) (hs : List Hr) : Option (Nat × Int) := best (mv us) (2 ^ us.length) (rowsOf us hs) (initS us)
noncomputable def planC (us : List Un) (hs : List Hr) : List Nat := plan (mv us) (2 ^ us.length) (rowsOf us hs) (initS us)
noncomputable def planB (us : List Un) (hs : List Hr) : List (List Bool) := (planC us hs).map (bitsN us.length)
noncomputable def costB (us : List Un) (hs : List Hr) (pl : List (List Bool)) : Option Int := pc (mv us) (rowsOf us hs) (initS us) (pl.map num)
def colB (pl : List (List Bool)) (i : Nat) : List Bool := pl.map fun r => r[i]?.getD false
theorem rowOf_get {us : List Un} {h : Hr} {r : List Bool} (hr : r.length = us.length) : (rowOf us h)[num r]?.getD none = supH us h r := by
  have := num_lt r
  rw [hr] at this
  simp [rowOf, this, bitsN_num hr]
theorem sumN_cons (f : Nat → Int) : ∀ n, sumN f (n + 1) = f 0 + sumN (fun i => f (i + 1)) n
  | 0 => by simp [sumN]
  | n + 1 => by rw [sumN, sumN_cons f n, sumN]; omega
theorem supC_iff : ∀ {R : List Row} {cs : List Nat} {v : Int}, supC R cs = some v ↔ cs.length = R.length ∧ (∀ k, k < R.length → ∃ y, (R[k]?.getD [])[cs[k]?.getD 0]?.getD none = some y) ∧ v = sumN (fun k => ((R[k]?.getD [])[cs[k]?.getD 0]?.getD none).getD 0) R.length
  | [], [], v => by
    simp only [supC, List.length_nil, sumN]
    constructor
    · intro h
      simp only [Option.some.injEq] at h
      exact ⟨trivial, fun k hk => absurd hk (by omega), h.symm⟩
    · rintro ⟨_, _, rfl⟩
      rfl
  | h :: R, c :: cs, v => by
    rw [supC_cons]
    constructor
    · rintro ⟨k0, x, h1, h2, rfl⟩
      obtain ⟨i1, i2, i3⟩ := supC_iff.1 h2
      refine ⟨by simp [i1], fun k hk => ?_, ?_⟩
      · cases k with
        | zero => exact ⟨k0, h1⟩
        | succ k => exact i2 k (by simpa using hk)
      · rw [List.length_cons, sumN_cons, i3]
        simp only [List.getElem?_cons_zero, List.getElem?_cons_succ, Option.getD_some, h1]
    · rintro ⟨i1, i2, rfl⟩
      obtain ⟨y, hy⟩ := i2 0 (by simp)
      refine ⟨y, _, hy, supC_iff.2 ⟨by simpa using i1, fun k hk => i2 (k + 1) (by simpa using hk), rfl⟩, ?_⟩
      rw [List.length_cons, sumN_cons]
      simp only [List.getElem?_cons_zero, Option.getD_some] at hy
      simp only [List.getElem?_cons_zero, List.getElem?_cons_succ, Option.getD_some, hy]
  | [], _ :: _, v => by
    constructor
    · intro h; simp [supC] at h
    · rintro ⟨h, _⟩; simp at h
  | _ :: _, [], v => by
    constructor
    · intro h; simp [supC] at h
    · rintro ⟨h, _⟩; simp at h
theorem initS_get {us : List Un} {i : Nat} (hi : i < us.length) : (initS us)[i]?.getD 0 = uinit (us[i]?.getD U0) := by simp [initS, hi]
theorem colC_num {n : Nat} {pl : List (List Bool)} (hr : ∀ r ∈ pl, r.length = n) {i : Nat} (hi : i < n) : colC n (pl.map num) i = colB pl i := by
  unfold colC colB
  rw [List.map_map]
  refine List.map_congr_left fun r hrm => ?_
  have hl := hr r hrm
  subst hl
  exact bitN_num hi
/-- What a plan costs. -/
theorem costB_iff {us : List Un} {hs : List Hr} {pl : List (List Bool)} {v : Int} (hl : pl.length = hs.length) (hr : ∀ r ∈ pl, r.length = us.length) : costB us hs pl = some v ↔
    (∀ k, k < hs.length → ∃ y, supH us (hs[k]?.getD Hr0) (pl[k]?.getD []) = some y) ∧ (∀ i, i < us.length → ufeas (us[i]?.getD U0) (uinit (us[i]?.getD U0)) (colB pl i) = true) ∧
      v = sumN (fun k => (supH us (hs[k]?.getD Hr0) (pl[k]?.getD [])).getD 0) hs.length + sumN (fun i => ufix (us[i]?.getD U0) (uinit (us[i]?.getD U0)) (colB pl i)) us.length := by
  have hrow : ∀ k, k < hs.length → ((rowsOf us hs)[k]?.getD [])[(pl.map num)[k]?.getD 0]?.getD none = supH us (hs[k]?.getD Hr0) (pl[k]?.getD []) := fun k hk => by
    have hkp : k < pl.length := by omega
    have e1 : (rowsOf us hs)[k]?.getD [] = rowOf us (hs[k]?.getD Hr0) := by simp [rowsOf, hk]
    have e2 : (pl.map num)[k]?.getD 0 = num (pl[k]?.getD []) := by simp [hkp]
    rw [e1, e2]
    exact rowOf_get (hr _ (by rw [List.getElem?_eq_getElem hkp]; exact List.getElem_mem hkp))
  have hlen : (rowsOf us hs).length = hs.length := by simp [rowsOf]
  have hS : sumN (fun k => (((rowsOf us hs)[k]?.getD [])[(pl.map num)[k]?.getD 0]?.getD none).getD 0) hs.length = sumN (fun k => (supH us (hs[k]?.getD Hr0) (pl[k]?.getD [])).getD 0) hs.length := sumN_congr fun k hk => by rw [hrow k hk]
  have hF : sumN (fun i => ufix (us[i]?.getD U0) ((initS us)[i]?.getD 0) (colC us.length (pl.map num) i)) us.length = sumN (fun i => ufix (us[i]?.getD U0) (uinit (us[i]?.getD U0)) (colB pl i)) us.length := sumN_congr fun i hi => by rw [initS_get hi, colC_num hr hi]
  unfold costB
  rw [pc_iff]
  constructor
  · rintro ⟨e, h1, h2, rfl⟩
    obtain ⟨_, i2, i3⟩ := supC_iff.1 h1
    rw [hlen] at i2 i3
    refine ⟨fun k hk => by rw [← hrow k hk]; exact i2 k hk, fun i hi => by have := h2 i hi; rwa [initS_get hi, colC_num hr hi] at this, ?_⟩
    rw [i3, hS, hF]
  · rintro ⟨h1, h2, rfl⟩
    refine ⟨_, supC_iff.2 ⟨by rw [List.length_map, hlen, hl], fun k hk => ?_, rfl⟩, fun i hi => by rw [initS_get hi, colC_num hr hi]; exact h2 i hi, ?_⟩
    · rw [hlen] at hk
      rw [hrow k hk]
      exact h1 k hk
    · rw [hlen, hS, hF]

/-- Cost of package commit. -/
noncomputable def costV (us : List Un) (hs : List Hr) (pl : List (List Bool)) : Int × Int :=
  if cchk us hs ≠ 0 then (0, cchk us hs) else if pl.length = hs.length ∧ ∀ r ∈ pl, r.length = us.length then (match costB us hs pl with | none => (0, 3) | some v => (v, 0)) else (0, 3)
theorem costV_ok {us : List Un} {hs : List Hr} {pl : List (List Bool)} {v : Int} (h : costV us hs pl = (v, 0)) : cchk us hs = 0 ∧ pl.length = hs.length ∧ (∀ r ∈ pl, r.length = us.length) ∧ costB us hs pl = some v := by
  unfold costV at h
  by_cases h1 : cchk us hs ≠ 0
  · rw [if_pos h1] at h
    exact absurd (congrArg Prod.snd h) h1
  · rw [if_neg h1] at h
    by_cases h2 : pl.length = hs.length ∧ ∀ r ∈ pl, r.length = us.length
    · rw [if_pos h2] at h
      cases e : costB us hs pl with
      | none => rw [e] at h; simp at h
      | some x =>
        rw [e] at h
        simp only [Prod.mk.injEq, and_true] at h
        exact ⟨Classical.not_not.1 h1, h2.1, h2.2, by rw [h]⟩
    · rw [if_neg h2] at h; simp at h
theorem costV_of {us : List Un} {hs : List Hr} {pl : List (List Bool)} {v : Int} (h1 : cchk us hs = 0) (h2 : pl.length = hs.length) (h3 : ∀ r ∈ pl, r.length = us.length) (h4 : costB us hs pl = some v) : costV us hs pl = (v, 0) := by
  unfold costV
  rw [if_neg (by simp [h1]), if_pos ⟨h2, h3⟩, h4]

theorem planB_shape {us : List Un} {hs : List Hr} {c : Nat} {v : Int} (h : bestV us hs = some (c, v)) : (planB us hs).length = hs.length ∧ (∀ r ∈ planB us hs, r.length = us.length) ∧ (planB us hs).map num = planC us hs ∧ costB us hs (planB us hs) = some v := by
  obtain ⟨h1, h2, _⟩ := (best_opt (mv := mv us) (N := 2 ^ us.length) (hs := rowsOf us hs) (s := initS us)).2 c v h
  have e : (planB us hs).map num = planC us hs := by
    unfold planB
    rw [List.map_map]
    have : ∀ x ∈ planC us hs, (num ∘ bitsN us.length) x = id x := fun x hx => num_bitsN (h2 x hx)
    rw [List.map_congr_left this, List.map_id]
  have hl := pc_len h1
  refine ⟨?_, fun r hr => ?_, e, ?_⟩
  · unfold planB
    rw [List.length_map]
    exact hl.trans (by simp [rowsOf])
  · obtain ⟨c, _, rfl⟩ := List.mem_map.1 hr
    exact bitsN_len _ _
  · unfold costB
    rw [e]
    exact h1
theorem nums_lt {n : Nat} {pl : List (List Bool)} (h : ∀ r ∈ pl, r.length = n) : ∀ d ∈ pl.map num, d < 2 ^ n := fun d hd => by
  obtain ⟨r, hr, rfl⟩ := List.mem_map.1 hd
  have := num_lt r
  rwa [h r hr] at this
/-- No feasible plan costs less, and one of equal cost comes later. -/
theorem plan_opt {us : List Un} {hs : List Hr} {pl : List (List Bool)} {v : Int} (hr : ∀ r ∈ pl, r.length = us.length) (h : costB us hs pl = some v) : ∃ c x, bestV us hs = some (c, x) ∧ x ≤ v ∧ (x = v → lexle ((planB us hs).map num) (pl.map num)) := by
  cases e : bestV us hs with
  | none =>
    have := (best_opt (mv := mv us) (N := 2 ^ us.length) (hs := rowsOf us hs) (s := initS us)).1 e _ (nums_lt hr)
    unfold costB at h
    rw [this] at h
    simp at h
  | some b =>
    obtain ⟨c, x⟩ := b
    obtain ⟨_, _, h3⟩ := (best_opt (mv := mv us) (N := 2 ^ us.length) (hs := rowsOf us hs) (s := initS us)).2 c x e
    obtain ⟨j1, j2⟩ := h3 _ v (nums_lt hr) h
    rw [(planB_shape e).2.2.1]
    exact ⟨c, x, rfl, j1, j2⟩
theorem lexB_first : ∀ {x y : List Bool}, lexB x y → ∀ k : Nat, (∀ j : Nat, j < k → x[j]?.getD false = y[j]?.getD false) → x[k]?.getD false ≠ y[k]?.getD false → y[k]?.getD false = true
  | a :: x, b :: y, h, k, he, hne => by
    rcases h with ⟨rfl, rfl⟩ | ⟨rfl, h⟩
    · cases k with
      | zero => rfl
      | succ k => exact absurd (he 0 (by omega)) (by simp)
    · cases k with
      | zero => exact absurd rfl hne
      | succ k => exact lexB_first h k (fun j hj => by simpa using he (j + 1) (by omega)) (by simpa using hne)
  | [], [], h, _, _, _ => h.elim
  | [], _ :: _, h, _, _, _ => h.elim
  | _ :: _, [], h, _, _, _ => h.elim
/-- Where two plans first differ, the later one is on. -/
theorem lex_first {n : Nat} : ∀ {x y : List (List Bool)}, (∀ r ∈ x, r.length = n) → (∀ r ∈ y, r.length = n) → lexle (x.map num) (y.map num) → ∀ i k : Nat, (∀ j : Nat, j < i → x[j]?.getD [] = y[j]?.getD []) → (∀ j : Nat, j < k → (x[i]?.getD [])[j]?.getD false = (y[i]?.getD [])[j]?.getD false) → (x[i]?.getD [])[k]?.getD false ≠ (y[i]?.getD [])[k]?.getD false → (y[i]?.getD [])[k]?.getD false = true
  | [], [], _, _, _, i, k, _, _, hne => absurd rfl hne
  | a :: x, b :: y, hx, hy, h, i, k, h1, h2, hne => by
    have la := hx a (List.mem_cons_self ..)
    have lb := hy b (List.mem_cons_self ..)
    rw [List.map_cons, List.map_cons] at h
    cases i with
    | zero =>
      simp only [List.getElem?_cons_zero, Option.getD_some] at h2 hne ⊢
      rcases h with h | ⟨h, _⟩
      · exact lexB_first (num_lex (by omega) h) k h2 hne
      · have : a = b := by rw [← bitsN_num la, ← bitsN_num lb, h]
        rw [this] at hne
        exact absurd rfl hne
    | succ i =>
      simp only [List.getElem?_cons_succ] at h2 hne ⊢
      have e0 := h1 0 (by omega)
      simp only [List.getElem?_cons_zero, Option.getD_some] at e0
      subst e0
      rcases h with h | ⟨_, h⟩
      · omega
      · exact lex_first (fun r hr => hx r (List.mem_cons_of_mem _ hr)) (fun r hr => hy r (List.mem_cons_of_mem _ hr)) h i k (fun j hj => by simpa using h1 (j + 1) (by omega)) h2 hne
  | [], _ :: _, _, _, h, _, _, _, _, _ => h.elim
  | _ :: _, [], _, _, h, _, _, _, _, _ => h.elim

/-- Units that differ in Bus, Spin and On alone. -/
def SameU (u v : Un) : Prop := u.mn = v.mn ∧ u.st = v.st ∧ u.up = v.up ∧ u.dn = v.dn ∧ u.start = v.start ∧ u.idle = v.idle
def SameUs (us vs : List Un) : Prop := us.length = vs.length ∧ ∀ i : Nat, SameU (us[i]?.getD U0) (vs[i]?.getD U0)
theorem SameUs.cons {u v : Un} {us vs : List Un} (h : SameUs (u :: us) (v :: vs)) : SameU u v ∧ SameUs us vs :=
  ⟨by simpa using h.2 0, by simpa using h.1, fun i => by simpa using h.2 (i + 1)⟩
theorem SameUs.pus : ∀ {us vs : List Un} {bs : List Bool}, SameUs us vs → pus us bs = Go.Proofs.YtdoeejcmaeefcaaGreat.pus vs bs
  | [], [], bs, _ => rfl
  | u :: us, v :: vs, [], _ => rfl
  | u :: us, v :: vs, b :: bs, h => by
    obtain ⟨h1, h2⟩ := h.cons
    have ih := SameUs.pus (bs := bs) h2
    have e : ∀ (u : Un) us, Go.Proofs.YtdoeejcmaeefcaaGreat.pus (u :: us) (b :: bs) = ⟨b, u.mn, u.st⟩ :: Go.Proofs.YtdoeejcmaeefcaaGreat.pus us bs := fun _ _ => rfl
    rw [e, e, ih, h1.1, h1.2.1]
  | [], _ :: _, _, h => by simp [SameUs] at h
  | _ :: _, [], _, h => by simp [SameUs] at h
theorem SameUs.range : ∀ {us vs : List Un} {bs : List Bool}, SameUs us vs → rmin (us.zip bs) = rmin (vs.zip bs) ∧ rmax (us.zip bs) = rmax (vs.zip bs)
  | [], [], bs, _ => ⟨rfl, rfl⟩
  | u :: us, v :: vs, [], _ => ⟨rfl, rfl⟩
  | u :: us, v :: vs, b :: bs, h => by
    obtain ⟨h1, h2⟩ := h.cons
    obtain ⟨i1, i2⟩ := SameUs.range (bs := bs) h2
    unfold rmin rmax umax at *
    simp only [List.zip_cons_cons, List.map_cons, List.sum_cons]
    rw [i1, i2, h1.1, h1.2.1]
    exact ⟨rfl, rfl⟩
  | [], _ :: _, _, h => by simp [SameUs] at h
  | _ :: _, [], _, h => by simp [SameUs] at h
theorem SameUs.sup {us vs : List Un} (h : SameUs us vs) (h1 : us.length ≤ 5) (hu : ∀ u ∈ us, uchk u = 0) (hv : ∀ u ∈ vs, uchk u = 0) (hr : Hr) (bs : List Bool) : supH us hr bs = supH vs hr bs := by
  have e1 : echk us us.length = 0 := echk_of h1 rfl hu
  have e2 : echk vs vs.length = 0 := echk_of (by rw [← h.1]; exact h1) rfl hv
  obtain ⟨r1, r2⟩ := h.range (bs := bs)
  unfold supH lcV aerr optR
  rw [h.pus, r1, r2, h.1]
  rw [h.1] at e1
  rw [e1, e2]
theorem unext_same {u v : Un} (h : SameU u v) (s : Int) (b : Bool) : unext u s b = unext v s b := by
  unfold unext
  rw [h.2.2.1, h.2.2.2.1]
theorem ufx_same {u v : Un} (h : SameU u v) (s : Int) (b : Bool) : ufx u s b = ufx v s b := by
  unfold ufx
  rw [h.2.2.2.2.1, h.2.2.2.2.2]
theorem SameUs.mv {us vs : List Un} (h : SameUs us vs) : mv us = Cm.mv vs := by
  have hk : ∀ ss bs k, mvK us ss bs k = mvK vs ss bs k := by
    intro ss bs k
    induction k with
    | zero => rfl
    | succ k ih => rw [mvK, mvK, ih, unext_same (h.2 k), ufx_same (h.2 k)]
  funext r ss c
  unfold Cm.mv
  rw [h.1, hk]
theorem SameUs.rows {us vs : List Un} (h : SameUs us vs) (h1 : us.length ≤ 5) (hu : ∀ u ∈ us, uchk u = 0) (hv : ∀ u ∈ vs, uchk u = 0) (hs : List Hr) : rowsOf us hs = rowsOf vs hs := by
  unfold rowsOf rowOf
  refine List.map_congr_left fun r _ => ?_
  rw [h.1]
  exact List.map_congr_left fun c _ => h.sup h1 hu hv r _
/-- Fields that do not matter. -/
theorem plan_same {us vs : List Un} {hs : List Hr} (h : SameUs us vs) (h1 : us.length ≤ 5) (hu : ∀ u ∈ us, uchk u = 0) (hv : ∀ u ∈ vs, uchk u = 0) (ho : ∀ i : Nat, (us[i]?.getD U0).on = (vs[i]?.getD U0).on) : bestV us hs = bestV vs hs ∧ planB us hs = planB vs hs := by
  have hi : initS us = initS vs := by
    apply List.ext_getElem (by simp [initS, h.1])
    intro i h2 h3
    have hi1 : i < us.length := by simpa [initS] using h2
    have hi2 : i < vs.length := by simpa [initS] using h3
    have e := h.2 i
    have e2 := ho i
    rw [List.getElem?_eq_getElem hi1, List.getElem?_eq_getElem hi2] at e e2
    have e3 : uinit us[i] = uinit vs[i] := by
      have f1 : us[i].up = vs[i].up := e.2.2.1
      have f2 : us[i].dn = vs[i].dn := e.2.2.2.1
      have f3 : us[i].on = vs[i].on := e2
      unfold uinit
      rw [f1, f2, f3]
    have g1 : (initS us)[i] = uinit us[i] := by simp [initS]
    have g2 : (initS vs)[i] = uinit vs[i] := by simp [initS]
    rw [g1, g2, e3]
  unfold bestV planB planC
  rw [h.mv, h.rows h1 hu hv hs, hi, h.1]
  exact ⟨rfl, rfl⟩

/-- More choices at the same costs. -/
def MoreR (R R' : Row) : Prop := ∀ (c : Nat) (y : Int), R[c]?.getD none = some y → R'[c]?.getD none = some y
theorem pc_more {us : List Un} : ∀ {hs hs' : List Row} {ss : List Int} {cs : List Nat} {v : Int}, hs.length = hs'.length → (∀ k : Nat, MoreR (hs[k]?.getD []) (hs'[k]?.getD [])) → pc (mv us) hs ss cs = some v → pc (mv us) hs' ss cs = some v
  | [], [], ss, cs, v, _, _, h => h
  | r :: hs, r' :: hs', ss, c :: cs, v, hl, hm, h => by
    obtain ⟨s', k, x, h1, h2, rfl⟩ := pc_cons.1 h
    obtain ⟨k0, g0, g1, g2, rfl⟩ := mv_iff.1 h1
    refine pc_cons.2 ⟨s', _, x, mv_iff.2 ⟨k0, ?_, g1, g2, rfl⟩, pc_more (by simpa using hl) (fun k => by simpa using hm (k + 1)) h2, rfl⟩
    have := hm 0 c k0
    simp only [List.getElem?_cons_zero, Option.getD_some] at this
    exact this g0
  | r :: hs, r' :: hs', ss, [], v, _, _, h => by simp [pc] at h
  | [], _ :: _, _, _, _, h, _, _ => by simp at h
  | _ :: _, [], _, _, _, h, _, _ => by simp at h
/-- A lower requirement leaves a plan feasible, at the same cost. -/
theorem plan_need {us : List Un} {hs hs' : List Hr} {c : Nat} {v : Int} (hl : hs.length = hs'.length) (hf : ∀ k, k < hs.length → firm (hs'[k]?.getD Hr0) = firm (hs[k]?.getD Hr0) ∧ (hs'[k]?.getD Hr0).need ≤ (hs[k]?.getD Hr0).need) (h : bestV us hs = some (c, v)) : ∃ c' v', bestV us hs' = some (c', v') ∧ v' ≤ v := by
  obtain ⟨_, hr, _, hc⟩ := planB_shape h
  have hm : pc (mv us) (rowsOf us hs') (initS us) ((planB us hs).map num) = some v := by
    refine pc_more (by simp [rowsOf, hl]) (fun k c y hy => ?_) hc
    by_cases hk : k < hs.length
    · obtain ⟨e1, e2⟩ := hf k hk
      have hk' : k < hs'.length := by omega
      have a1 : (rowsOf us hs)[k]?.getD [] = rowOf us (hs[k]?.getD Hr0) := by simp [rowsOf, hk]
      have a2 : (rowsOf us hs')[k]?.getD [] = rowOf us (hs'[k]?.getD Hr0) := by simp [rowsOf, hk']
      rw [a1] at hy
      rw [a2]
      by_cases hcn : c < 2 ^ us.length
      · simp only [rowOf, List.getElem?_map, List.getElem?_range hcn, Option.map_some, Option.getD_some] at hy ⊢
        unfold supH at hy ⊢
        split at hy
        · rename_i hcond
          rw [if_pos (by rw [e1]; omega), e1]
          exact hy
        · simp at hy
      · have hlen : (rowOf us (hs[k]?.getD Hr0)).length = 2 ^ us.length := by simp [rowOf]
        rw [List.getElem?_eq_none (by omega)] at hy
        simp at hy
    · have hlen : (rowsOf us hs).length = hs.length := by simp [rowsOf]
      rw [List.getElem?_eq_none (l := rowsOf us hs) (by omega)] at hy
      simp at hy
  obtain ⟨c', x, h1, h2, _⟩ := plan_opt (us := us) (hs := hs') hr hm
  exact ⟨c', x, h1, h2⟩

/-- The state of a unit after a schedule. -/
def uafter (u : Un) : Int → List Bool → Int
  | s, [] => s
  | s, b :: r => match unext u s b with
    | none => 0
    | some t => uafter u t r
theorem ufeas_off {u : Un} (h : uchk u = 0) : ∀ (k : Nat) {s : Int}, s < 0 → ufeas u s (List.replicate k false) = true ∧ ufix u s (List.replicate k false) = 0
  | 0, s, _ => ⟨rfl, rfl⟩
  | k + 1, s, hs => by
    have h9 := uchk_rest h
    have e : unext u s false = some (max (s - 1) (-u.dn)) := by
      unfold unext
      rw [if_neg (by simp), if_neg (by simp), if_pos ⟨rfl, hs⟩]
    obtain ⟨i1, i2⟩ := ufeas_off h k (s := max (s - 1) (-u.dn)) (by omega)
    rw [List.replicate_succ, ufeas, ufix, e]
    simp only [i1, i2]
    exact ⟨trivial, by simp [ufx]⟩
theorem colB_snoc_old {us : List Un} {pl : List (List Bool)} (hr : ∀ r ∈ pl, r.length = us.length) {i : Nat} (hi : i < us.length) : colB (pl.map fun r => r ++ [false]) i = colB pl i := by
  unfold colB
  rw [List.map_map]
  refine List.map_congr_left fun r hrm => ?_
  have := hr r hrm
  simp only [Function.comp]
  rw [List.getElem?_append_left (by omega)]
theorem colB_snoc_new {us : List Un} {pl : List (List Bool)} (hr : ∀ r ∈ pl, r.length = us.length) : colB (pl.map fun r => r ++ [false]) us.length = List.replicate pl.length false := by
  unfold colB
  rw [List.map_map]
  have : ∀ r ∈ pl, ((fun r : List Bool => r[us.length]?.getD false) ∘ fun r => r ++ [false]) r = (fun _ => false) r := fun r hrm => by
    have := hr r hrm
    simp only [Function.comp]
    rw [List.getElem?_append_right (by omega), this, Nat.sub_self]
    rfl
  rw [List.map_congr_left this, List.map_const']
theorem ins_end {α : Type} (x : α) (l : List α) : ins x l.length l = l ++ [x] := by rw [ins_eq]; simp
theorem sup_snoc {us : List Un} {m : Un} (h1 : us.length < 5) (hu : ∀ u ∈ us, uchk u = 0) (hm : uchk m = 0) (h : Hr) {bs : List Bool} (hb : bs.length = us.length) (hf : 0 ≤ firm h) (hn : 0 ≤ h.need) (hp : LcP us bs us.length (firm h)) : supH (us ++ [m]) h (bs ++ [false]) = supH us h bs := by
  have e1 : echk us us.length = 0 := echk_of (by omega) rfl hu
  have ez : (us ++ [m]).zip (bs ++ [false]) = us.zip bs ++ [(m, false)] := by
    rw [List.zip_append hb.symm]
    rfl
  have hl := lcV_ins (v := m) (k := us.length) e1 hb hm h1 hp
  rw [ins_end, ← hb, ins_end, hb] at hl
  unfold supH
  rw [ez, rmin_snoc, rmax_snoc]
  simp only [Bool.false_eq_true, if_false, Int.add_zero]
  rw [List.length_append, List.length_cons, List.length_nil, hl]

end Cm
end Go.Proofs.YtdoeejcmaeefcaaGreat

namespace Go.Proofs.YtdoeejcmaeefcaaGreat
set_option linter.unusedVariables false
set_option linter.unusedSimpArgs false
open Go.RowKit
open Wd
namespace Cm

theorem gmem {α : Type} {l : List α} {k : Nat} {d : α} (h : k < l.length) : l[k]?.getD d ∈ l := by
  rw [List.getElem?_eq_getElem h]
  exact List.getElem_mem h
/-- The pieces in the order of their prices. -/
theorem pieces_sorted (ps : List En.Pc) : ∃ rs : List En.Pc, rs.Perm ps ∧ rs.Pairwise fun a b => En.ltP b a = false := by
  refine ⟨ps.mergeSort fun a b => !En.ltP b a, List.mergeSort_perm .., ?_⟩
  have h := List.pairwise_mergeSort (le := fun a b : En.Pc => !En.ltP b a) (fun a b c h1 h2 => by
    unfold En.ltP at *
    simp only [Bool.not_eq_true', ne_eq, ite_not] at *
    split at h1 <;> split at h2 <;> split <;> simp at * <;> omega) (fun a b => by
    unfold En.ltP
    simp only [ne_eq, ite_not, Bool.or_eq_true, Bool.not_eq_true']
    split <;> split <;> simp at * <;> omega) ps
  exact h.imp fun {a b} hab => by simpa using hab
theorem lcP_any {us : List Un} {bs : List Bool} {n : Nat} {f : Int} (hb : bs.length = n) : LcP us bs n f := fun he => by
  obtain ⟨h1, h2, h3, h4⟩ := aerr_ok he
  obtain ⟨_, hn, hok⟩ := echk_ok h1
  obtain ⟨_, s1, s2⟩ := pus_ok (zs := us.zip bs) fun z hz => hok z.1 (List.of_mem_zip hz).1
  obtain ⟨rs, r1, r2⟩ := pieces_sorted (En.pieces 0 (pus us bs))
  have ho := pus_allok (us := us) (bs := bs) hok
  have hO := En.fill_opt ho r1 r2 (f := f) (by rw [show En.sumR ((pus us bs).map En.PU.dn) = rmin (us.zip bs) from s1]; exact h3) (by rw [show En.sumR ((pus us bs).map En.PU.up) = rmax (us.zip bs) from s2]; exact h4)
  have e := optR_eq hok hO
  rw [e]
  refine ⟨hO, ?_⟩
  rw [En.fill_len, List.length_map]
  unfold pus
  rw [List.length_map, List.length_zip]
  omega

theorem firm_pos {h : Hr} (hk : hchk h = 0) : 0 ≤ firm h ∧ 0 ≤ h.need := by
  have hb : ∀ bs : List (Int × List (Int × Int)), bchk bs = 0 → 0 ≤ sumL (bs.map fun b => firmS b.2) := by
    intro bs
    induction bs with
    | nil => intro _; exact Int.le_refl _
    | cons b r ih =>
      intro hc
      rw [bchk] at hc
      split at hc
      · simp at hc
      · split at hc
        · rename_i h1 h2; exact absurd hc h2
        · rename_i h1 h2
          have h3 := (chk_ok (Classical.not_not.1 h2)).2.2.2
          have h4 := ih hc
          have h5 : 0 ≤ firmS b.2 := by
            have key : ∀ l : List (Int × Int), (∀ s ∈ l, ¬ Bad s.1 s.2) → 0 ≤ firmS l := by
              intro l
              induction l with
              | nil => intro _; exact Int.le_refl _
              | cons s l ih2 =>
                intro hl
                have i1 := ih2 fun t ht => hl t (List.mem_cons_of_mem _ ht)
                have i2 := hl s (List.mem_cons_self ..)
                unfold Bad at i2
                unfold firmS at i1 ⊢
                rw [List.map_cons, sumL]
                split <;> omega
            exact key _ h3
          rw [List.map_cons, sumL]
          omega
  unfold firm
  rw [if_pos hk]
  unfold hchk at hk
  split at hk
  · simp at hk
  · split at hk
    · rename_i h1 h2; exact absurd hk h2
    · rename_i h1 h2
      split at hk
      · simp at hk
      · exact ⟨hb _ (Classical.not_not.1 h2), by omega⟩

/-- A unit that stays off changes nothing. -/
theorem cost_more {us : List Un} {m : Un} {hs : List Hr} {pl : List (List Bool)} {v : Int} (h1 : us.length < 5) (hu : ∀ u ∈ us, uchk u = 0) (hm : uchk m = 0) (ho : m.on < 0) (hh : ∀ h ∈ hs, hchk h = 0) (hl : pl.length = hs.length) (hr : ∀ r ∈ pl, r.length = us.length) (h : costB us hs pl = some v) :
    costB (us ++ [m]) hs (pl.map fun r => r ++ [false]) = some v := by
  obtain ⟨g1, g2, g3⟩ := (costB_iff hl hr).1 h
  have hr' : ∀ r ∈ pl.map (fun r : List Bool => r ++ [false]), r.length = (us ++ [m]).length := fun r hrm => by
    obtain ⟨r0, h0, rfl⟩ := List.mem_map.1 hrm
    simp [hr r0 h0]
  have hsup : ∀ k, k < hs.length → supH (us ++ [m]) (hs[k]?.getD Hr0) ((pl.map fun r => r ++ [false])[k]?.getD []) = supH us (hs[k]?.getD Hr0) (pl[k]?.getD []) := fun k hk => by
    have hkp : k < pl.length := by omega
    have e : (pl.map fun r => r ++ [false])[k]?.getD [] = (pl[k]?.getD []) ++ [false] := by simp [hkp]
    have hb := hr _ (gmem (d := []) hkp)
    obtain ⟨f1, f2⟩ := firm_pos (hh _ (gmem (d := Hr0) hk))
    rw [e]
    exact sup_snoc h1 hu hm _ hb f1 f2 (lcP_any hb)
  have hi : uinit m < 0 := by
    have := uchk_rest hm
    unfold uinit
    omega
  obtain ⟨o1, o2⟩ := ufeas_off hm pl.length hi
  refine (costB_iff (by simp [hl]) hr').2 ⟨fun k hk => by rw [hsup k hk]; exact g1 k hk, fun i hi => ?_, ?_⟩
  · by_cases hiu : i < us.length
    · rw [List.getElem?_append_left hiu, colB_snoc_old hr hiu]
      exact g2 i hiu
    · obtain rfl : i = us.length := by simp at hi; omega
      rw [List.getElem?_append_right (Nat.le_refl _), Nat.sub_self, colB_snoc_new hr]
      exact o1
  · rw [List.length_append, List.length_cons, List.length_nil, sumN]
    have e1 : sumN (fun k => (supH (us ++ [m]) (hs[k]?.getD Hr0) ((pl.map fun r => r ++ [false])[k]?.getD [])).getD 0) hs.length = sumN (fun k => (supH us (hs[k]?.getD Hr0) (pl[k]?.getD [])).getD 0) hs.length := sumN_congr fun k hk => by rw [hsup k hk]
    have e2 : sumN (fun i => ufix ((us ++ [m])[i]?.getD U0) (uinit ((us ++ [m])[i]?.getD U0)) (colB (pl.map fun r => r ++ [false]) i)) us.length = sumN (fun i => ufix (us[i]?.getD U0) (uinit (us[i]?.getD U0)) (colB pl i)) us.length := sumN_congr fun i hi => by
      rw [List.getElem?_append_left hi, colB_snoc_old hr hi]
    rw [e1, e2, List.getElem?_append_right (Nat.le_refl _), Nat.sub_self, colB_snoc_new hr]
    simp only [List.getElem?_cons_zero, Option.getD_some, o2]
    omega
theorem plan_more {us : List Un} {m : Un} {hs : List Hr} {c : Nat} {v : Int} (h1 : us.length < 5) (hu : ∀ u ∈ us, uchk u = 0) (hm : uchk m = 0) (ho : m.on < 0) (hh : ∀ h ∈ hs, hchk h = 0) (h : bestV us hs = some (c, v)) : ∃ c' v', bestV (us ++ [m]) hs = some (c', v') ∧ v' ≤ v := by
  obtain ⟨s1, s2, _, s4⟩ := planB_shape h
  have hc := cost_more h1 hu hm ho hh s1 s2 s4
  obtain ⟨c', x, g1, g2, _⟩ := plan_opt (us := us ++ [m]) (hs := hs) (fun r hr => by
    obtain ⟨r0, h0, rfl⟩ := List.mem_map.1 hr
    simp [s2 r0 h0]) hc
  exact ⟨c', x, g1, g2⟩

/-- The states after the hours of a plan. -/
def after (us : List Un) : List Int → List (List Bool) → List Int
  | ss, [] => ss
  | ss, r :: rs => after us ((List.range us.length).map fun i => (unext (us[i]?.getD U0) (ss[i]?.getD 0) (r[i]?.getD false)).getD 0) rs
theorem after_len (us : List Un) : ∀ (rs : List (List Bool)) (ss : List Int), ss.length = us.length → (after us ss rs).length = us.length
  | [], ss, h => h
  | r :: rs, ss, h => by rw [after]; exact after_len us rs _ (by simp)
theorem best_front {us : List Un} : ∀ (k : Nat) {hs : List Row} {ss : List Int} {c : Nat} {v : Int}, k ≤ hs.length → best (mv us) (2 ^ us.length) hs ss = some (c, v) →
    (∃ c' x y, best (mv us) (2 ^ us.length) (hs.drop k) (after us ss (((plan (mv us) (2 ^ us.length) hs ss).take k).map (bitsN us.length))) = some (c', x) ∧ (plan (mv us) (2 ^ us.length) hs ss).drop k = plan (mv us) (2 ^ us.length) (hs.drop k) (after us ss (((plan (mv us) (2 ^ us.length) hs ss).take k).map (bitsN us.length))) ∧
      pc (mv us) (hs.take k) ss ((plan (mv us) (2 ^ us.length) hs ss).take k) = some y ∧ v = y + x) ∧
    ∀ h, h < k → ∀ i, i < us.length → unext (us[i]?.getD U0) ((after us ss (((plan (mv us) (2 ^ us.length) hs ss).take h).map (bitsN us.length)))[i]?.getD 0) (bitN us.length ((plan (mv us) (2 ^ us.length) hs ss)[h]?.getD 0) i) = some ((after us ss (((plan (mv us) (2 ^ us.length) hs ss).take (h + 1)).map (bitsN us.length)))[i]?.getD 0)
  | 0, hs, ss, c, v, _, h => ⟨⟨c, v, 0, by simpa [after] using h, by simp [after], by simp [pc], by omega⟩, fun h hh => absurd hh (by omega)⟩
  | k + 1, [], ss, c, v, hk, h => by simp at hk
  | k + 1, r :: hs, ss, c, v, hk, h => by
    obtain ⟨s', k0, c', x, e1, e2, e3, e4, e5⟩ := plan_cons h
    obtain ⟨kk, g0, g1, g2, g3⟩ := mv_iff.1 e1
    have hs' : s' = (List.range us.length).map fun i => (unext (us[i]?.getD U0) (ss[i]?.getD 0) ((bitsN us.length c)[i]?.getD false)).getD 0 := by
      apply List.ext_getElem (by simp [g1])
      intro i h1 h2
      have hi : i < us.length := by omega
      have := g2 i hi
      rw [List.getElem?_eq_getElem h1] at this
      simp only [List.getElem_map, List.getElem_range]
      rw [bitsN_get hi, this]
      rfl
    obtain ⟨⟨c2, x2, y, f1, f2, f3, f4⟩, f6⟩ := best_front k (hs := hs) (ss := s') (by simpa using hk) e2
    have ea : ∀ cs : List Nat, after us ss ((c :: cs).map (bitsN us.length)) = after us s' (cs.map (bitsN us.length)) := fun cs => by
      rw [List.map_cons, after, ← hs']
    refine ⟨⟨c2, x2, k0 + y, by rw [e4, List.take_succ_cons, ea]; simpa using f1, by rw [e4, List.take_succ_cons, ea]; simpa using f2, ?_, by omega⟩, fun h0 hh i hi => ?_⟩
    · rw [e4, List.take_succ_cons, List.take_succ_cons]
      exact pc_cons.2 ⟨s', k0, y, e1, f3, rfl⟩
    · rw [e4]
      cases h0 with
      | zero =>
        rw [List.take_zero, Nat.zero_add, List.take_succ_cons, List.take_zero, ea]
        simp only [List.map_nil, after, List.getElem?_cons_zero, Option.getD_some]
        exact g2 i hi
      | succ h0 =>
        rw [List.take_succ_cons, List.take_succ_cons, ea, ea, List.getElem?_cons_succ]
        exact f6 h0 (by omega) i hi

end Cm
end Go.Proofs.YtdoeejcmaeefcaaGreat

namespace Go.Proofs.YtdoeejcmaeefcaaGreat
set_option linter.unusedVariables false
set_option linter.unusedSimpArgs false
open Go.RowKit
open Wd
namespace Cm

/-- Units whose On is the state at a point. -/
def setOn (us : List Un) (ss : List Int) : List Un := (List.range us.length).map fun i => { (us[i]?.getD U0) with on := ss[i]?.getD 0 }
theorem setOn_len (us : List Un) (ss : List Int) : (setOn us ss).length = us.length := by simp [setOn]
theorem setOn_get {us : List Un} {ss : List Int} {i : Nat} (hi : i < us.length) : (setOn us ss)[i]?.getD U0 = { (us[i]?.getD U0) with on := ss[i]?.getD 0 } := by simp [setOn, hi]
theorem setOn_same (us : List Un) (ss : List Int) : SameUs us (setOn us ss) := by
  refine ⟨(setOn_len us ss).symm, fun i => ?_⟩
  by_cases hi : i < us.length
  · rw [setOn_get hi]
    exact ⟨rfl, rfl, rfl, rfl, rfl, rfl⟩
  · rw [List.getElem?_eq_none (by omega), List.getElem?_eq_none (by rw [setOn_len]; omega)]
    exact ⟨rfl, rfl, rfl, rfl, rfl, rfl⟩
theorem uchk_on {u : Un} {s : Int} (h : uchk u = 0) (h1 : s ≠ 0) (h2 : -6 ≤ s) (h3 : s ≤ 6) : uchk { u with on := s } = 0 := by
  have h9 := uchk_rest h
  unfold uchk at h ⊢
  split at h
  · simp at h
  · rename_i g1
    rw [if_neg g1]
    split at h
    · rename_i g2; exact absurd h g2
    · rename_i g2
      rw [if_neg g2]
      split at h
      · simp at h
      · rename_i g3
        rw [if_neg g3]
        split at h
        · simp at h
        · rename_i g4
          rw [if_neg]
          unfold uRest at g4 ⊢
          simp only at g4 ⊢
          omega
/-- The states on the way are states that the units can have. -/
theorem after_ok {us : List Un} (hu : ∀ u ∈ us, uchk u = 0) {hs : List Row} {c : Nat} {v : Int} (h : best (mv us) (2 ^ us.length) hs (initS us) = some (c, v)) : ∀ k, k ≤ hs.length → ∀ i, i < us.length → StOk (us[i]?.getD U0) ((after us (initS us) (((plan (mv us) (2 ^ us.length) hs (initS us)).take k).map (bitsN us.length)))[i]?.getD 0)
  | 0, _, i, hi => by
    simp only [List.take_zero, List.map_nil, after]
    rw [initS_get hi]
    exact uinit_ok (hu _ (gmem hi))
  | k + 1, hk, i, hi => by
    have ih := after_ok hu h k (by omega) i hi
    exact (unext_ok (hu _ (gmem hi)) ih ((best_front (k + 1) hk h).2 k (by omega) i hi)).1
theorem rowsOf_take (us : List Un) (hs : List Hr) (k : Nat) : rowsOf us (hs.take k) = (rowsOf us hs).take k := by unfold rowsOf; rw [List.map_take]
theorem rowsOf_drop (us : List Un) (hs : List Hr) (k : Nat) : rowsOf us (hs.drop k) = (rowsOf us hs).drop k := by unfold rowsOf; rw [List.map_drop]
/-- What the commitment of some hours and that of the others say of each other. -/
structure DpV (us : List Un) (hs : List Hr) (k : Nat) (v : Int) (later : List Un) (x y : Int) : Prop where
  ok1 : cchk us (hs.take k) = 0
  ok2 : cchk later (hs.drop k) = 0
  best : ∃ c, bestV later (hs.drop k) = some (c, x)
  plan : planB later (hs.drop k) = (planB us hs).drop k
  front : costB us (hs.take k) ((planB us hs).take k) = some y
  sum : v = y + x
theorem plan_dp {us : List Un} {hs : List Hr} {c k : Nat} {v : Int} (hc : cchk us hs = 0) (h : bestV us hs = some (c, v)) (h0 : 0 < k) (hk : k < hs.length) :
    (∃ x y, DpV us hs k v (setOn us (after us (initS us) ((planB us hs).take k))) x y) ∧
    ∀ h, h < k → ∀ i, i < us.length → StOk (us[i]?.getD U0) ((after us (initS us) ((planB us hs).take h))[i]?.getD 0) ∧ unext (us[i]?.getD U0) ((after us (initS us) ((planB us hs).take h))[i]?.getD 0) (((planB us hs)[h]?.getD [])[i]?.getD false) = some ((after us (initS us) ((planB us hs).take (h + 1)))[i]?.getD 0) := by
  obtain ⟨c1, c2, c3, c4, c5⟩ := cchk_ok.1 hc
  have hl : (rowsOf us hs).length = hs.length := by simp [rowsOf]
  have et : ∀ j, ((planC us hs).take j).map (bitsN us.length) = (planB us hs).take j := fun j => by unfold planB; rw [List.map_take]
  obtain ⟨⟨c', x, y, f1, f2, f3, f4⟩, f5⟩ := best_front k (by rw [hl]; omega) h
  have hok := after_ok c2 h
  have hpl : (planC us hs).length = hs.length := by
    have := (planB_shape h).1
    unfold planB at this
    simpa using this
  change ∀ j, j ≤ (rowsOf us hs).length → ∀ i, i < us.length → StOk (us[i]?.getD U0) ((after us (initS us) (((planC us hs).take j).map (bitsN us.length)))[i]?.getD 0) at hok
  change best (mv us) (2 ^ us.length) ((rowsOf us hs).drop k) (after us (initS us) (((planC us hs).take k).map (bitsN us.length))) = some (c', x) at f1
  change (planC us hs).drop k = Cm.plan (mv us) (2 ^ us.length) ((rowsOf us hs).drop k) (after us (initS us) (((planC us hs).take k).map (bitsN us.length))) at f2
  change pc (mv us) ((rowsOf us hs).take k) (initS us) ((planC us hs).take k) = some y at f3
  change ∀ h, h < k → ∀ i, i < us.length → unext (us[i]?.getD U0) ((after us (initS us) (((planC us hs).take h).map (bitsN us.length)))[i]?.getD 0) (bitN us.length ((planC us hs)[h]?.getD 0) i) = some ((after us (initS us) (((planC us hs).take (h + 1)).map (bitsN us.length)))[i]?.getD 0) at f5
  simp only [et] at f1 f2 f5 hok
  have hsl : (after us (initS us) ((planB us hs).take k)).length = us.length := after_len us _ _ (by simp [initS])
  refine ⟨⟨x, y, ?_⟩, fun j hj i hi => ⟨hok j (by omega) i hi, ?_⟩⟩
  · have hok2 := hok k (by omega)
    have hps := (planB_shape h).2.2.1
    generalize after us (initS us) ((planB us hs).take k) = ss at *
    have hsame := setOn_same us ss
    have hlen := setOn_len us ss
    have hu2 : ∀ u ∈ setOn us ss, uchk u = 0 := fun u hum => by
      obtain ⟨i, hi, rfl⟩ := List.mem_map.1 hum
      have hi : i < us.length := by simpa using hi
      have h1 := c2 _ (gmem (d := U0) hi)
      have h2 := hok2 i hi
      have h3 := uchk_rest h1
      unfold StOk at h2
      exact uchk_on h1 h2.1 (by omega) (by omega)
    have hin : initS (setOn us ss) = ss := by
      apply List.ext_getElem (by simp [initS, hlen, hsl])
      intro i h1 h2
      have hi : i < us.length := by omega
      have e1 := initS_get (us := setOn us ss) (i := i) (by omega)
      rw [List.getElem?_eq_getElem h1, setOn_get hi, List.getElem?_eq_getElem h2] at e1
      simp only [Option.getD_some] at e1
      have h3 := hok2 i hi
      rw [List.getElem?_eq_getElem h2] at h3
      unfold StOk at h3
      simp only [Option.getD_some] at h3
      rw [e1]
      unfold uinit
      simp only
      omega
    have hrows : rowsOf (setOn us ss) (hs.drop k) = (rowsOf us hs).drop k := by rw [← hsame.rows c1 c2 hu2, rowsOf_drop]
    have hbest : bestV (setOn us ss) (hs.drop k) = some (c', x) := by
      unfold bestV
      rw [← hsame.mv, hrows, hin, hlen]
      exact f1
    have hplan : planC (setOn us ss) (hs.drop k) = (planC us hs).drop k := by
      unfold planC at f2 ⊢
      rw [← hsame.mv, hrows, hin, hlen]
      exact f2.symm
    refine ⟨cchk_ok.2 ⟨c1, c2, by rw [List.length_take]; omega, by rw [List.length_take]; omega, fun r hr => c5 r (List.mem_of_mem_take hr)⟩, cchk_ok.2 ⟨by omega, hu2, by rw [List.length_drop]; omega, by rw [List.length_drop]; omega, fun r hr => c5 r (List.mem_of_mem_drop hr)⟩, ⟨c', hbest⟩, ?_, ?_, f4⟩
    · unfold planB
      rw [hplan, hlen, List.map_drop]
    · unfold costB
      rw [rowsOf_take, List.map_take, hps]
      exact f3
  · have e : ((planB us hs)[j]?.getD [])[i]?.getD false = bitN us.length ((planC us hs)[j]?.getD 0) i := by
      have hjp : j < (planC us hs).length := by omega
      unfold planB
      rw [List.getElem?_map, List.getElem?_eq_getElem hjp]
      simp only [Option.map_some, Option.getD_some]
      exact bitsN_get hi
    rw [e]
    exact f5 j hj i hi

end Cm
end Go.Proofs.YtdoeejcmaeefcaaGreat
