/-
Plain law of package energy: filling the pieces of the units in order of price, and of the later unit first, gives the row at a threshold. No statement of the seat is proved here; no conditions beyond those of each theorem.
-/
import Derived.Test.YthpldmlpononhaaGreatEP
namespace Go.Proofs.YthpldmlpononhaaGreat
set_option linter.unusedVariables false
set_option linter.unusedSimpArgs false
namespace En

abbrev Pc := Nat × Int × Int
/-- What is left of a curve above used. -/
def left : Int → List (Int × Int) → List (Int × Int)
  | _, [] => []
  | t, s :: r => (s.1 - min t s.1, s.2) :: left (t - min t s.1) r
def pieces : Nat → List PU → List Pc
  | _, [] => []
  | k, z :: zs => (if z.on then (left z.mn z.st).map (fun s => (k, s.1, s.2)) else []) ++ pieces (k + 1) zs
def fill : List Pc → Int → List Int → List Int
  | [], _, x => x
  | p :: ps, r, x => fill ps (r - min r p.2.1) (x.set p.1 (x[p.1]?.getD 0 + min r p.2.1))
def ltP (a b : Pc) : Bool := if a.2.2 ≠ b.2.2 then decide (a.2.2 < b.2.2) else decide (b.1 < a.1)
def tot (c : Pc → Bool) : List Pc → Int
  | [] => 0
  | p :: ps => (if c p then p.2.1 else 0) + tot c ps

theorem tot_app (c : Pc → Bool) : ∀ (ps rs : List Pc), tot c (ps ++ rs) = tot c ps + tot c rs
  | [], rs => by simp [tot]
  | p :: ps, rs => by rw [List.cons_append, tot, tot, tot_app c ps rs]; omega
theorem tot_perm {c : Pc → Bool} {ps rs : List Pc} (h : ps.Perm rs) : tot c ps = tot c rs := by
  induction h with
  | nil => rfl
  | cons x _ ih => rw [tot, tot, ih]
  | swap x y l => rw [tot, tot, tot, tot]; omega
  | trans _ _ h1 h2 => rw [h1, h2]
theorem tot_congr {c d : Pc → Bool} : ∀ {ps : List Pc}, (∀ p ∈ ps, c p = d p) → tot c ps = tot d ps
  | [], _ => rfl
  | p :: ps, h => by rw [tot, tot, h p (List.mem_cons_self ..), tot_congr fun q hq => h q (List.mem_cons_of_mem _ hq)]
theorem tot_none {c : Pc → Bool} : ∀ {ps : List Pc}, (∀ p ∈ ps, c p = false) → tot c ps = 0
  | [], _ => rfl
  | p :: ps, h => by rw [tot, h p (List.mem_cons_self ..), tot_none fun q hq => h q (List.mem_cons_of_mem _ hq)]; rfl
theorem tot_le {c d : Pc → Bool} : ∀ {ps : List Pc}, (∀ p ∈ ps, 0 ≤ p.2.1) → (∀ p ∈ ps, c p = true → d p = true) → tot c ps ≤ tot d ps
  | [], _, _ => Int.le_refl _
  | p :: ps, h0, h => by
    have ih := tot_le (fun q hq => h0 q (List.mem_cons_of_mem _ hq)) (fun q hq => h q (List.mem_cons_of_mem _ hq))
    have h1 := h0 p (List.mem_cons_self ..)
    have h2 := h p (List.mem_cons_self ..)
    rw [tot, tot]
    cases hc : c p
    · simp only [Bool.false_eq_true, if_false]; split <;> omega
    · rw [h2 hc]; simp only [if_true]; omega
theorem tot_nonneg {c : Pc → Bool} {ps : List Pc} (h : ∀ p ∈ ps, 0 ≤ p.2.1) : 0 ≤ tot c ps := by
  have := tot_le (c := fun _ => false) (d := c) h (fun _ _ h => by cases h)
  rwa [tot_none (fun _ _ => rfl)] at this

theorem fill_zero : ∀ (ps : List Pc) (x : List Int), (∀ p ∈ ps, 0 ≤ p.2.1) → fill ps 0 x = x
  | [], _, _ => rfl
  | p :: ps, x, h => by
    have h1 := h p (List.mem_cons_self ..)
    have e : min 0 p.2.1 = 0 := by omega
    rw [fill, e, Int.add_zero, Int.sub_zero]
    have e2 : x.set p.1 (x[p.1]?.getD 0) = x := by
      by_cases hl : p.1 < x.length
      · rw [List.getElem?_eq_getElem hl]; simp
      · exact List.set_eq_of_length_le (by omega)
    rw [e2]
    exact fill_zero ps x fun q hq => h q (List.mem_cons_of_mem _ hq)
theorem set_get (x : List Int) (i j : Nat) (v : Int) (hi : i < x.length) : (x.set i v)[j]?.getD 0 = if i = j then v else x[j]?.getD 0 := by
  rw [List.getElem?_set]
  by_cases h : i = j
  · subst h; simp [hi]
  · simp [h]
theorem sum_set : ∀ (x : List Int) (i : Nat) (a : Int), i < x.length → sumR (x.set i (x[i]?.getD 0 + a)) = sumR x + a
  | [], _, _, h => absurd h (by simp)
  | y :: x, 0, a, _ => by simp [sumR]; omega
  | y :: x, i + 1, a, h => by
    have ih := sum_set x i a (by simpa using h)
    simp only [List.set_cons_succ, List.getElem?_cons_succ, sumR]
    omega
theorem fill_len : ∀ (ps : List Pc) (r : Int) (x : List Int), (fill ps r x).length = x.length
  | [], _, _ => rfl
  | p :: ps, r, x => by rw [fill, fill_len]; simp
theorem fill_split : ∀ (ps : List Pc) (r : Int) (x : List Int), (∀ p ∈ ps, 0 ≤ p.2.1) → (∀ p ∈ ps, p.1 < x.length) → 0 ≤ r → r ≤ tot (fun _ => true) ps → ps ≠ [] →
    ∃ pre m post a, ps = pre ++ m :: post ∧ 0 ≤ a ∧ a ≤ m.2.1 ∧ sumR (fill ps r x) = sumR x + r ∧ ∀ i, (fill ps r x)[i]?.getD 0 = x[i]?.getD 0 + tot (fun p => decide (p.1 = i)) pre + (if m.1 = i then a else 0)
  | [], _, _, _, _, _, _, h => absurd rfl h
  | p :: ps, r, x, hq, hl, h0, h1, _ => by
    have hp := hq p (List.mem_cons_self ..)
    have hlp := hl p (List.mem_cons_self ..)
    by_cases hr : r ≤ p.2.1
    · refine ⟨[], p, ps, r, rfl, h0, hr, ?_, fun i => ?_⟩
      · rw [fill, show min r p.2.1 = r by omega, Int.sub_self, fill_zero _ _ (fun q hq' => hq q (List.mem_cons_of_mem _ hq')), sum_set _ _ _ hlp]
      · rw [fill, show min r p.2.1 = r by omega, Int.sub_self, fill_zero _ _ (fun q hq' => hq q (List.mem_cons_of_mem _ hq')), set_get _ _ _ _ hlp, tot]
        by_cases hi : p.1 = i
        · rw [if_pos hi, if_pos hi, ← hi]; omega
        · rw [if_neg hi, if_neg hi]; omega
    · have hne : ps ≠ [] := by
        intro e; subst e; simp [tot] at h1; omega
      rw [tot] at h1
      simp only [if_true] at h1
      obtain ⟨pre, m, post, a, e, a0, a1, hs, hg⟩ := fill_split ps (r - p.2.1) (x.set p.1 (x[p.1]?.getD 0 + p.2.1)) (fun q hq' => hq q (List.mem_cons_of_mem _ hq')) (fun q hq' => by rw [List.length_set]; exact hl q (List.mem_cons_of_mem _ hq')) (by omega) (by omega) hne
      refine ⟨p :: pre, m, post, a, by rw [e]; rfl, a0, a1, ?_, fun i => ?_⟩
      · rw [fill, show min r p.2.1 = p.2.1 by omega, hs, sum_set _ _ _ hlp]; omega
      · rw [fill, show min r p.2.1 = p.2.1 by omega, hg i, set_get _ _ _ _ hlp, tot]
        by_cases hi : p.1 = i
        · have hd : decide (p.1 = i) = true := by simpa using hi
          rw [if_pos hi, if_pos hd, ← hi]; omega
        · have hd : ¬ decide (p.1 = i) = true := by simpa using hi
          rw [if_neg hi, if_neg hd]; omega

theorem left_nonneg : ∀ (st : List (Int × Int)) (t : Int), Up st → 0 ≤ t → ∀ s ∈ left t st, 0 ≤ s.1
  | [], _, _, _, s, hs => by cases hs
  | s :: r, t, hu, ht, y, hy => by
    rcases List.mem_cons.1 hy with rfl | hy
    · show 0 ≤ s.1 - min t s.1; omega
    · exact left_nonneg r _ hu.2.2 (by have := hu.1; omega) y hy
theorem left_qle {v : Int} : ∀ (st : List (Int × Int)) (t : Int), Up st → 0 ≤ t → t ≤ qs st → qle v (left t st) = max t (qle v st) - t
  | [], t, _, h0, h1 => by
    simp only [qs] at h1
    have e : t = 0 := by omega
    subst e; rfl
  | s :: r, t, hu, h0, h1 => by
    obtain ⟨hq, hr, hu'⟩ := hu
    rw [qs] at h1
    have hb := qle_bd (v := v) hu'
    have ih := left_qle (v := v) r (t - min t s.1) hu' (by omega) (by omega)
    rw [left, qle, qle, ih]
    by_cases hp : s.2 ≤ v
    · rw [if_pos hp, if_pos hp]; omega
    · have hz : qle v r = 0 := qle_zero fun y hy => by have := hr y hy; omega
      rw [if_neg hp, if_neg hp, hz]; omega
theorem left_qs : ∀ (st : List (Int × Int)) (t : Int), Up st → 0 ≤ t → t ≤ qs st → qs (left t st) = qs st - t
  | [], t, _, h0, h1 => by
    simp only [qs] at h1
    have e : t = 0 := by omega
    subst e; rfl
  | s :: r, t, hu, h0, h1 => by
    obtain ⟨hq, hr, hu'⟩ := hu
    rw [qs] at h1
    have hz := qle_bd (v := 0) hu'
    have ih := left_qs r (t - min t s.1) hu' (by omega) (by omega)
    rw [left, qs, qs, ih]
    show s.1 - min t s.1 + _ = _
    omega

theorem tot_map (k : Nat) (c : Pc → Bool) (d : Int → Bool) (h : ∀ q p, c (k, q, p) = d p) : ∀ (l : List (Int × Int)), tot c (l.map fun s => (k, s.1, s.2)) = (l.map fun s => if d s.2 then s.1 else 0).sum
  | [] => rfl
  | s :: l => by rw [List.map_cons, tot, h, tot_map k c d h l, List.map_cons, List.sum_cons]
theorem qle_sum (v : Int) : ∀ (l : List (Int × Int)), qle v l = (l.map fun s => if decide (s.2 ≤ v) then s.1 else 0).sum
  | [] => rfl
  | s :: l => by rw [qle, qle_sum v l, List.map_cons, List.sum_cons]; simp
theorem qs_sum : ∀ (l : List (Int × Int)), qs l = (l.map fun s => if (true : Bool) then s.1 else 0).sum
  | [] => rfl
  | s :: l => by rw [qs, qs_sum l, List.map_cons, List.sum_cons]; simp

theorem pieces_unit : ∀ (zs : List PU) (k : Nat) (p : Pc), p ∈ pieces k zs → k ≤ p.1 ∧ p.1 < k + zs.length
  | [], _, _, h => by cases h
  | z :: zs, k, p, h => by
    rw [pieces, List.mem_append] at h
    rcases h with h | h
    · cases hon : z.on
      · rw [hon] at h; cases h
      · rw [hon] at h
        simp only [if_true, List.mem_map] at h
        obtain ⟨s, _, rfl⟩ := h
        simp
    · have := pieces_unit zs (k + 1) p h
      simp only [List.length_cons]
      omega
theorem pieces_nonneg : ∀ (zs : List PU) (k : Nat), AllOk zs → ∀ p ∈ pieces k zs, 0 ≤ p.2.1
  | [], _, _, _, h => by cases h
  | z :: zs, k, ho, p, h => by
    rw [pieces, List.mem_append] at h
    rcases h with h | h
    · cases hon : z.on
      · rw [hon] at h; cases h
      · rw [hon] at h
        simp only [if_true, List.mem_map] at h
        obtain ⟨s, hs, rfl⟩ := h
        exact left_nonneg z.st z.mn ho.1.1 ho.1.2.1 s hs
    · exact pieces_nonneg zs (k + 1) ho.2 p h
theorem pieces_qle {v : Int} : ∀ (zs : List PU) (k j : Nat), AllOk zs → j < zs.length → tot (fun p => decide (p.1 = k + j) && decide (p.2.2 ≤ v)) (pieces k zs) = (zs[j]?.getD ⟨false, 0, []⟩).hi v - (zs[j]?.getD ⟨false, 0, []⟩).dn
  | [], _, _, _, h => absurd h (by simp)
  | z :: zs, k, 0, ho, _ => by
    rw [pieces, tot_app]
    have e2 : tot (fun p => decide (p.1 = k + 0) && decide (p.2.2 ≤ v)) (pieces (k + 1) zs) = 0 := tot_none fun p hp => by
      have := pieces_unit zs (k + 1) p hp
      simp; omega
    rw [e2]
    simp only [List.getElem?_cons_zero, Option.getD_some]
    unfold PU.hi PU.dn
    cases hon : z.on
    · simp [tot]
    · simp only [if_true]
      rw [tot_map k _ (fun p => decide (p ≤ v)) (by intro q p; simp), ← qle_sum, left_qle _ _ ho.1.1 ho.1.2.1 ho.1.2.2]
      omega
  | z :: zs, k, j + 1, ho, h => by
    rw [pieces, tot_app]
    have e1 : tot (fun p => decide (p.1 = k + (j + 1)) && decide (p.2.2 ≤ v)) (if z.on then (left z.mn z.st).map (fun s => (k, s.1, s.2)) else []) = 0 := tot_none fun p hp => by
      cases hon : z.on
      · rw [hon] at hp; cases hp
      · rw [hon] at hp
        simp only [if_true, List.mem_map] at hp
        obtain ⟨s, _, rfl⟩ := hp
        simp
    have ih := pieces_qle (v := v) zs (k + 1) j ho.2 (by simpa using h)
    have ek : k + 1 + j = k + (j + 1) := by omega
    rw [ek] at ih
    rw [e1, ih]
    simp
theorem pieces_tot : ∀ (zs : List PU) (k : Nat), AllOk zs → tot (fun _ => true) (pieces k zs) = sumR (zs.map PU.up) - sumR (zs.map PU.dn)
  | [], _, _ => rfl
  | z :: zs, k, ho => by
    rw [pieces, tot_app, pieces_tot zs (k + 1) ho.2, List.map_cons, List.map_cons, sumR, sumR]
    unfold PU.up PU.dn
    cases hon : z.on
    · simp [tot]
    · simp only [if_true]
      rw [tot_map k _ (fun _ => true) (by intro q p; rfl), ← qs_sum, left_qs _ _ ho.1.1 ho.1.2.1 ho.1.2.2]
      omega

theorem thr_of {v : Int} {u : Nat} : ∀ (zs : List PU) (xs : List Int) (k : Nat), xs.length = zs.length →
    (∀ j, j < zs.length → ((zs[j]?.getD ⟨false, 0, []⟩).lo v ≤ xs[j]?.getD 0 ∧ xs[j]?.getD 0 ≤ (zs[j]?.getD ⟨false, 0, []⟩).hi v) ∧ (k + j < u → xs[j]?.getD 0 = (zs[j]?.getD ⟨false, 0, []⟩).lo v) ∧ (u < k + j → xs[j]?.getD 0 = (zs[j]?.getD ⟨false, 0, []⟩).hi v)) → Thr v u k zs xs
  | [], [], _, _, _ => trivial
  | z :: zs, x :: xs, k, hl, h => by
    obtain ⟨h1, h2, h3⟩ := h 0 (by simp)
    refine ⟨by simpa using h1, by simpa using h2, by simpa using h3, thr_of zs xs (k + 1) (by simpa using hl) fun j hj => ?_⟩
    have := h (j + 1) (by simpa using hj)
    rw [show k + (j + 1) = k + 1 + j by omega] at this
    simpa using this
  | [], _ :: _, _, h, _ => by simp at h
  | _ :: _, [], _, h, _ => by simp at h

theorem hi_lo (z : PU) (v : Int) : z.hi (v - 1) = z.lo v := rfl

/-- Filling the pieces in order gives the optimal allocation. -/
theorem fill_opt {zs : List PU} {f : Int} {ps : List Pc} (ho : AllOk zs) (hp : ps.Perm (pieces 0 zs)) (hs : ps.Pairwise fun a b => ltP b a = false) (h1 : sumR (zs.map PU.dn) ≤ f) (h2 : f ≤ sumR (zs.map PU.up)) :
    Opt zs f (fill ps (f - sumR (zs.map PU.dn)) (zs.map PU.dn)) := by
  have hq : ∀ p ∈ ps, 0 ≤ p.2.1 := fun p h => pieces_nonneg zs 0 ho p (hp.mem_iff.1 h)
  have hu : ∀ p ∈ ps, p.1 < (zs.map PU.dn).length := fun p h => by
    have := (pieces_unit zs 0 p (hp.mem_iff.1 h)).2
    simpa using this
  have ht : f - sumR (zs.map PU.dn) ≤ tot (fun _ => true) ps := by rw [tot_perm hp, pieces_tot zs 0 ho]; omega
  have hget : ∀ j, j < zs.length → (zs.map PU.dn)[j]?.getD 0 = (zs[j]?.getD ⟨false, 0, []⟩).dn := fun j hj => by
    simp [List.getElem?_eq_getElem hj]
  by_cases hne : ps = []
  · subst hne
    simp only [tot] at ht
    refine ⟨by simp only [fill]; omega, 0, 0, thr_of _ _ _ (by simp [fill]) fun j hj => ?_⟩
    have e : ∀ v, (zs[j]?.getD ⟨false, 0, []⟩).hi v = (zs[j]?.getD ⟨false, 0, []⟩).dn := fun v => by
      have := pieces_qle (v := v) zs 0 j ho hj
      rw [← tot_perm hp] at this
      simp only [tot] at this
      omega
    simp only [fill]
    rw [hget j hj, ← hi_lo, e, e]
    exact ⟨⟨Int.le_refl _, Int.le_refl _⟩, fun _ => rfl, fun _ => rfl⟩
  · obtain ⟨pre, m, post, a, e, a0, a1, hsum, hg⟩ := fill_split ps _ (zs.map PU.dn) hq hu (by omega) ht hne
    refine ⟨by omega, m.2.2, m.1, thr_of _ _ _ (by rw [fill_len]; simp) fun j hj => ?_⟩
    rw [hg j, hget j hj, ← hi_lo, Nat.zero_add]
    have k1 := pieces_qle (v := m.2.2 - 1) zs 0 j ho hj
    have k2 := pieces_qle (v := m.2.2) zs 0 j ho hj
    rw [← tot_perm hp, e, tot_app, tot, Nat.zero_add] at k1 k2
    rw [e] at hs
    have hs' := List.pairwise_append.1 hs
    obtain ⟨_, hs2, hs3⟩ := hs'
    have hs4 := (List.pairwise_cons.1 hs2).1
    have hpre : ∀ p ∈ pre, ltP m p = false := fun p h => hs3 p h m (List.mem_cons_self ..)
    have npre : ∀ p ∈ pre, 0 ≤ p.2.1 := fun p h => hq p (by rw [e]; exact List.mem_append_left _ h)
    have npost : ∀ p ∈ post, 0 ≤ p.2.1 := fun p h => hq p (by rw [e]; exact List.mem_append_right _ (List.mem_cons_of_mem _ h))
    have A1 : ∀ p ∈ pre, p.2.2 < m.2.2 ∨ (p.2.2 = m.2.2 ∧ m.1 ≤ p.1) := fun p h => by
      have := hpre p h
      unfold ltP at this
      by_cases hh : m.2.2 = p.2.2
      · simp [hh] at this; omega
      · simp [hh] at this; omega
    have A2 : ∀ p ∈ post, m.2.2 < p.2.2 ∨ (p.2.2 = m.2.2 ∧ p.1 ≤ m.1) := fun p h => by
      have := hs4 p h
      unfold ltP at this
      by_cases hh : p.2.2 = m.2.2
      · simp [hh] at this; omega
      · simp [hh] at this; omega
    -- pieces of unit j up to a price, before and after
    have z1 : tot (fun p => decide (p.1 = j) && decide (p.2.2 ≤ m.2.2 - 1)) post = 0 := tot_none fun p h => by
      have := A2 p h
      simp; omega
    have z2 : tot (fun p => decide (p.1 = j) && decide (p.2.2 ≤ m.2.2)) pre = tot (fun p => decide (p.1 = j)) pre := tot_congr fun p h => by
      have := A1 p h
      have hle : p.2.2 ≤ m.2.2 := by omega
      simp [hle]
    have z3 : tot (fun p => decide (p.1 = j) && decide (p.2.2 ≤ m.2.2 - 1)) pre ≤ tot (fun p => decide (p.1 = j)) pre := tot_le npre fun p _ h => by
      simp at h ⊢; exact h.1
    have z4 : 0 ≤ tot (fun p => decide (p.1 = j) && decide (p.2.2 ≤ m.2.2)) post := tot_nonneg npost
    have y1 : (if (decide (m.1 = j) && decide (m.2.2 ≤ m.2.2 - 1)) = true then m.2.1 else 0) = 0 := by
      rw [if_neg]; simp; omega
    rw [z1, y1] at k1
    rw [z2] at k2
    have hmq : 0 ≤ m.2.1 := by omega
    by_cases hmj : m.1 = j
    · have y2 : (if (decide (m.1 = j) && decide (m.2.2 ≤ m.2.2)) = true then m.2.1 else 0) = m.2.1 := by
        rw [if_pos]; simp [hmj]
      rw [y2] at k2
      rw [if_pos hmj]
      exact ⟨⟨by omega, by omega⟩, fun h => by omega, fun h => by omega⟩
    · have y2 : (if (decide (m.1 = j) && decide (m.2.2 ≤ m.2.2)) = true then m.2.1 else 0) = 0 := by
        rw [if_neg]; simp [hmj]
      rw [y2] at k2
      rw [if_neg hmj]
      rcases Nat.lt_or_ge j m.1 with hlt | hge
      · have w1 : tot (fun p => decide (p.1 = j) && decide (p.2.2 ≤ m.2.2 - 1)) pre = tot (fun p => decide (p.1 = j)) pre := tot_congr fun p h => by
          have := A1 p h
          by_cases hpj : p.1 = j
          · have hle : p.2.2 ≤ m.2.2 - 1 := by omega
            simp [hle]
          · simp [hpj]
        rw [w1] at k1
        exact ⟨⟨by omega, by omega⟩, fun _ => by omega, fun h => by omega⟩
      · have w1 : tot (fun p => decide (p.1 = j) && decide (p.2.2 ≤ m.2.2)) post = 0 := tot_none fun p h => by
          have := A2 p h
          simp; omega
        rw [w1] at k2
        exact ⟨⟨by omega, by omega⟩, fun h => by omega, fun _ => by omega⟩

end En
end Go.Proofs.YthpldmlpononhaaGreat
