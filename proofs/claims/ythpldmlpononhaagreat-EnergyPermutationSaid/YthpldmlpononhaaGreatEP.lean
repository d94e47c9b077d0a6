/-
Plain law of package energy: a row that stands at a threshold of price and unit is the least of its sum, by cost and then by order. No statement of the seat is proved here; no conditions beyond those of each theorem.
-/
namespace Go.Proofs.YthpldmlpononhaaGreat
set_option linter.unusedVariables false
set_option linter.unusedSimpArgs false
namespace En

/-- The cost of t on a curve. -/
def cst : List (Int × Int) → Int → Int
  | [], _ => 0
  | s :: r, t => min t s.1 * s.2 + cst r (t - min t s.1)
def qs : List (Int × Int) → Int
  | [] => 0
  | s :: r => s.1 + qs r
/-- What the steps at prices up to v hold. -/
def qle (v : Int) : List (Int × Int) → Int
  | [] => 0
  | s :: r => (if s.2 ≤ v then s.1 else 0) + qle v r
/-- Quantities are not negative, prices rise. -/
def Up : List (Int × Int) → Prop
  | [] => True
  | s :: r => 0 ≤ s.1 ∧ (∀ t ∈ r, s.2 < t.2) ∧ Up r

theorem qle_zero {v : Int} : ∀ {st : List (Int × Int)}, (∀ t ∈ st, v < t.2) → qle v st = 0
  | [], _ => rfl
  | s :: r, h => by
    have h1 := h s (List.mem_cons_self ..)
    rw [qle, if_neg (by omega), qle_zero fun t ht => h t (List.mem_cons_of_mem _ ht)]
    rfl
theorem qle_bd {v : Int} : ∀ {st : List (Int × Int)}, Up st → 0 ≤ qle v st ∧ qle v st ≤ qs st
  | [], _ => by simp [qle, qs]
  | s :: r, h => by
    obtain ⟨h1, _, h2⟩ := h
    have ih := qle_bd (v := v) h2
    rw [qle, qs]
    split <;> omega
theorem qle_mono {v u : Int} (hvu : v ≤ u) : ∀ {st : List (Int × Int)}, Up st → qle v st ≤ qle u st
  | [], _ => by simp [qle]
  | s :: r, h => by
    obtain ⟨h1, _, h2⟩ := h
    have ih := qle_mono hvu h2
    rw [qle, qle]
    by_cases h3 : s.2 ≤ v
    · rw [if_pos h3, if_pos (by omega)]; omega
    · rw [if_neg h3]; split <;> omega

theorem ar_slow {A B p v c1 c2 a b : Int} (m : (A - B) * p ≤ (A - B) * v) (ih : c2 - c1 ≤ v * ((b - A) - (a - B))) : A * p + c2 - (B * p + c1) ≤ v * (b - a) := by
  grind
theorem ar_fast {A B p v c1 c2 a b : Int} (m : (A - B) * v ≤ (A - B) * p) (ih : v * ((b - A) - (a - B)) ≤ c2 - c1) : v * (b - a) ≤ A * p + c2 - (B * p + c1) := by
  grind

theorem cst_slow {v : Int} : ∀ (st : List (Int × Int)) (a b : Int), Up st → 0 ≤ a → a ≤ b → b ≤ qle v st → cst st b - cst st a ≤ v * (b - a)
  | [], a, b, _, h0, h1, h2 => by
    simp only [qle] at h2
    have e1 : b = 0 := by omega
    have e2 : a = 0 := by omega
    subst e1 e2
    simp [cst]
  | s :: r, a, b, hu, h0, h1, h2 => by
    obtain ⟨hq, hr, hu'⟩ := hu
    rw [cst, cst]
    by_cases hp : s.2 ≤ v
    · rw [qle, if_pos hp] at h2
      have hz := (qle_bd (v := v) hu').1
      have ih := cst_slow (v := v) r (a - min a s.1) (b - min b s.1) hu' (by omega) (by omega) (by omega)
      have m := Int.mul_le_mul_of_nonneg_left hp (show 0 ≤ min b s.1 - min a s.1 by omega)
      exact ar_slow m ih
    · have hz : qle v (s :: r) = 0 := qle_zero fun t ht => by
        rcases List.mem_cons.1 ht with rfl | ht
        · omega
        · have := hr t ht; omega
      rw [hz] at h2
      have e1 : b = 0 := by omega
      have e2 : a = 0 := by omega
      subst e1 e2
      simp

theorem cst_fast {v : Int} : ∀ (st : List (Int × Int)) (a b : Int), Up st → qle (v - 1) st ≤ a → a ≤ b → b ≤ qs st → v * (b - a) ≤ cst st b - cst st a
  | [], a, b, _, h0, h1, h2 => by
    simp only [qle, qs] at h0 h2
    have e1 : b = 0 := by omega
    have e2 : a = 0 := by omega
    subst e1 e2
    simp [cst]
  | s :: r, a, b, hu, h0, h1, h2 => by
    obtain ⟨hq, hr, hu'⟩ := hu
    rw [cst, cst]
    rw [qs] at h2
    by_cases hp : s.2 ≤ v - 1
    · rw [qle, if_pos hp] at h0
      have hz := (qle_bd (v := v - 1) hu').1
      have ih := cst_fast (v := v) r (a - min a s.1) (b - min b s.1) hu' (by omega) (by omega) (by omega)
      have m : (min b s.1 - min a s.1) * v ≤ (min b s.1 - min a s.1) * s.2 := by
        have e : min b s.1 - min a s.1 = 0 := by omega
        rw [e]; simp
      exact ar_fast m ih
    · have hz : qle (v - 1) r = 0 := qle_zero fun t ht => by have := hr t ht; omega
      have hb0 : 0 ≤ a := by
        have := (qle_bd (v := v - 1) (st := s :: r) ⟨hq, hr, hu'⟩).1
        omega
      have ih := cst_fast (v := v) r (a - min a s.1) (b - min b s.1) hu' (by omega) (by omega) (by have := (qle_bd (v := v) hu'); omega)
      have m := Int.mul_le_mul_of_nonneg_left (show v ≤ s.2 by omega) (show 0 ≤ min b s.1 - min a s.1 by omega)
      exact ar_fast m ih

/-- What of a unit bears on an allocation. -/
structure PU where
  on : Bool
  mn : Int
  st : List (Int × Int)
def PU.dn (z : PU) : Int := if z.on then z.mn else 0
def PU.up (z : PU) : Int := if z.on then qs z.st else 0
def PU.lo (z : PU) (v : Int) : Int := if z.on then max z.mn (qle (v - 1) z.st) else 0
def PU.hi (z : PU) (v : Int) : Int := if z.on then max z.mn (qle v z.st) else 0
def PU.Ok (z : PU) : Prop := Up z.st ∧ 0 ≤ z.mn ∧ z.mn ≤ qs z.st

theorem PU.box {z : PU} (h : z.Ok) (v : Int) : z.dn ≤ z.lo v ∧ z.lo v ≤ z.hi v ∧ z.hi v ≤ z.up := by
  obtain ⟨h1, h2, h3⟩ := h
  have b1 := qle_bd (v := v) h1
  have b2 := qle_mono (v := v - 1) (u := v) (by omega) h1
  unfold PU.dn PU.lo PU.hi PU.up
  cases z.on
  · simp
  · simp only [if_true]; omega

theorem PU.least {z : PU} (h : z.Ok) {v x t : Int} (h1 : z.lo v ≤ x) (h2 : x ≤ z.hi v) (h3 : z.dn ≤ t) (h4 : t ≤ z.up) :
    cst z.st x - v * x ≤ cst z.st t - v * t ∧ (cst z.st t - v * t ≤ cst z.st x - v * x → z.lo v ≤ t ∧ t ≤ z.hi v) := by
  obtain ⟨u1, u2, u3⟩ := h
  have b0 := qle_bd (v := v - 1) u1
  have b1 := qle_bd (v := v) u1
  have b2 := qle_mono (v := v - 1) (u := v) (by omega) u1
  unfold PU.lo PU.hi PU.dn PU.up at *
  cases hon : z.on
  · rw [hon] at h1 h2 h3 h4
    simp only [Bool.false_eq_true, if_false] at *
    have e1 : x = 0 := by omega
    have e2 : t = 0 := by omega
    subst e1 e2
    exact ⟨Int.le_refl _, fun _ => ⟨Int.le_refl _, Int.le_refl _⟩⟩
  · rw [hon] at h1 h2 h3 h4
    simp only [if_true] at *
    have main : cst z.st x - v * x ≤ cst z.st t - v * t := by
      by_cases htx : t ≤ x
      · by_cases hxq : x ≤ qle v z.st
        · have := cst_slow z.st t x u1 (by omega) htx hxq
          grind
        · have e : t = x := by omega
          subst e
          exact Int.le_refl _
      · have := cst_fast (v := v) z.st x t u1 (by omega) (by omega) (by omega)
        grind
    refine ⟨main, fun hle => ⟨?_, ?_⟩⟩
    · rcases Int.lt_or_le t (max z.mn (qle (v - 1) z.st)) with hlt | hge
      · exfalso
        have s1 := cst_slow (v := v - 1) z.st t (qle (v - 1) z.st) u1 (by omega) (by omega) (Int.le_refl _)
        have s2 := cst_slow (v := v) z.st (qle (v - 1) z.st) x u1 (by omega) (by omega) (by omega)
        have s3 : 0 < qle (v - 1) z.st - t := by omega
        grind
      · exact hge
    · rcases Int.lt_or_le (max z.mn (qle v z.st)) t with hlt | hge
      · exfalso
        have s1 := cst_fast (v := v + 1) z.st (max z.mn (qle v z.st)) t u1 (by rw [Int.add_sub_cancel]; omega) (by omega) (by omega)
        have s2 := cst_fast (v := v) z.st x (max z.mn (qle v z.st)) u1 (by omega) (by omega) (by omega)
        have s3 : 0 < t - max z.mn (qle v z.st) := by omega
        grind
      · exact hge

def sumR : List Int → Int
  | [] => 0
  | x :: r => x + sumR r
def costR : List PU → List Int → Int
  | z :: zs, x :: xs => cst z.st x + costR zs xs
  | _, _ => 0
def FeasR : List PU → List Int → Prop
  | [], [] => True
  | z :: zs, x :: xs => z.dn ≤ x ∧ x ≤ z.up ∧ FeasR zs xs
  | _, _ => False
def Box (v : Int) : List PU → List Int → Prop
  | [], [] => True
  | z :: zs, x :: xs => z.lo v ≤ x ∧ x ≤ z.hi v ∧ Box v zs xs
  | _, _ => False
def AllOk : List PU → Prop
  | [] => True
  | z :: zs => z.Ok ∧ AllOk zs
def lexLe : List Int → List Int → Prop
  | [], [] => True
  | x :: xs, y :: ys => x < y ∨ (x = y ∧ lexLe xs ys)
  | _, _ => False
/-- Units before u stand at their least, units after u at their greatest of price v. -/
def Thr (v : Int) (u : Nat) : Nat → List PU → List Int → Prop
  | _, [], [] => True
  | k, z :: zs, x :: xs => (z.lo v ≤ x ∧ x ≤ z.hi v) ∧ (k < u → x = z.lo v) ∧ (u < k → x = z.hi v) ∧ Thr v u (k + 1) zs xs
  | _, _, _ => False

theorem Thr.box {v : Int} {u : Nat} : ∀ {zs : List PU} {xs : List Int} {k : Nat}, Thr v u k zs xs → Box v zs xs
  | [], [], _, _ => trivial
  | _ :: _, _ :: _, _, h => ⟨h.1.1, h.1.2, Thr.box h.2.2.2⟩
  | [], _ :: _, _, h => h.elim
  | _ :: _, [], _, h => h.elim
theorem Box.feas {v : Int} : ∀ {zs : List PU} {xs : List Int}, AllOk zs → Box v zs xs → FeasR zs xs
  | [], [], _, _ => trivial
  | z :: _, _ :: _, ho, h => by
    have hb := PU.box ho.1 v
    obtain ⟨h1, h2, h3⟩ := h
    exact ⟨by omega, by omega, Box.feas ho.2 h3⟩
  | [], _ :: _, _, h => h.elim
  | _ :: _, [], _, h => h.elim

theorem box_least {v : Int} : ∀ {zs : List PU} {xs ys : List Int}, AllOk zs → Box v zs xs → FeasR zs ys → costR zs xs - v * sumR xs ≤ costR zs ys - v * sumR ys ∧ (costR zs ys - v * sumR ys ≤ costR zs xs - v * sumR xs → Box v zs ys)
  | [], [], [], _, _, _ => ⟨Int.le_refl _, fun _ => trivial⟩
  | z :: zs, x :: xs, y :: ys, ho, hb, hf => by
    obtain ⟨b1, b2, b3⟩ := hb
    obtain ⟨f1, f2, f3⟩ := hf
    obtain ⟨p1, p2⟩ := PU.least ho.1 b1 b2 f1 f2
    obtain ⟨q1, q2⟩ := box_least ho.2 b3 f3
    rw [costR, costR, sumR, sumR]
    refine ⟨by grind, fun hle => ?_⟩
    obtain ⟨r1, r2⟩ := p2 (by grind)
    exact ⟨r1, r2, q2 (by grind)⟩
  | [], _ :: _, _, _, h, _ => h.elim
  | _ :: _, [], _, _, h, _ => h.elim
  | [], [], _ :: _, _, _, h => h.elim
  | _ :: _, _ :: _, [], _, _, h => h.elim

theorem high_sum {v : Int} {u : Nat} : ∀ {zs : List PU} {xs ys : List Int} {k : Nat}, u < k → Thr v u k zs xs → Box v zs ys → sumR ys ≤ sumR xs
  | [], [], [], _, _, _, _ => Int.le_refl _
  | z :: zs, x :: xs, y :: ys, k, hk, ht, hb => by
    obtain ⟨_, _, t3, t4⟩ := ht
    obtain ⟨b1, b2, b3⟩ := hb
    have ih := high_sum (k := k + 1) (by omega) t4 b3
    have := t3 hk
    rw [sumR, sumR]
    omega
  | [], _ :: _, _, _, _, h, _ => h.elim
  | _ :: _, [], _, _, _, h, _ => h.elim
  | [], [], _ :: _, _, _, _, h => h.elim
  | _ :: _, _ :: _, [], _, _, _, h => h.elim

theorem lex_least {v : Int} {u : Nat} : ∀ {zs : List PU} {xs ys : List Int} {k : Nat}, Thr v u k zs xs → Box v zs ys → sumR xs = sumR ys → lexLe xs ys
  | [], [], [], _, _, _, _ => trivial
  | z :: zs, x :: xs, y :: ys, k, ht, hb, hs => by
    obtain ⟨t1, t2, t3, t4⟩ := ht
    obtain ⟨b1, b2, b3⟩ := hb
    rw [sumR, sumR] at hs
    rcases Nat.lt_trichotomy k u with hk | hk | hk
    · have := t2 hk
      rcases Int.lt_or_le x y with hlt | hge
      · exact Or.inl hlt
      · exact Or.inr ⟨by omega, lex_least t4 b3 (by omega)⟩
    · have := high_sum (k := k + 1) (by omega) t4 b3
      rcases Int.lt_or_le x y with hlt | hge
      · exact Or.inl hlt
      · exact Or.inr ⟨by omega, lex_least t4 b3 (by omega)⟩
    · have h1 := high_sum (k := k + 1) (by omega) t4 b3
      have h2 := t3 hk
      exact Or.inr ⟨by omega, lex_least t4 b3 (by omega)⟩
  | [], _ :: _, _, _, h, _, _ => h.elim
  | _ :: _, [], _, _, h, _, _ => h.elim
  | [], [], _ :: _, _, _, h, _ => h.elim
  | _ :: _, _ :: _, [], _, _, h, _ => h.elim

/-- The row xs is the optimal allocation of f. -/
def Opt (zs : List PU) (f : Int) (xs : List Int) : Prop := sumR xs = f ∧ ((∃ v u, Thr v u 0 zs xs))

theorem Opt.feas {zs : List PU} {f : Int} {xs : List Int} (ho : AllOk zs) (h : Opt zs f xs) : FeasR zs xs := by
  obtain ⟨_, v, u, ht⟩ := h
  exact Box.feas ho ht.box
theorem Opt.least {zs : List PU} {f : Int} {xs ys : List Int} (ho : AllOk zs) (h : Opt zs f xs) (hf : FeasR zs ys) (hs : sumR ys = f) : costR zs xs ≤ costR zs ys ∧ (costR zs ys ≤ costR zs xs → lexLe xs ys) := by
  obtain ⟨h1, v, u, ht⟩ := h
  obtain ⟨p1, p2⟩ := box_least ho ht.box hf
  rw [h1, hs] at p1 p2
  refine ⟨by omega, fun hle => lex_least ht (p2 (by omega)) (by omega)⟩
theorem lex_anti : ∀ {xs ys : List Int}, lexLe xs ys → lexLe ys xs → xs = ys
  | [], [], _, _ => rfl
  | x :: xs, y :: ys, h1, h2 => by
    rcases h1 with h1 | ⟨h1, h1'⟩
    · rcases h2 with h2 | ⟨h2, h2'⟩ <;> omega
    · rcases h2 with h2 | ⟨h2, h2'⟩
      · omega
      · rw [h1, lex_anti h1' h2']
  | [], _ :: _, h, _ => h.elim
  | _ :: _, [], h, _ => h.elim
theorem Opt.only {zs : List PU} {f : Int} {xs ys : List Int} (ho : AllOk zs) (h : Opt zs f xs) (h' : Opt zs f ys) : xs = ys := by
  obtain ⟨a1, a2⟩ := h.least ho (h'.feas ho) h'.1
  obtain ⟨b1, b2⟩ := h'.least ho (h.feas ho) h.1
  exact lex_anti (a2 b1) (b2 a1)
/-- Each further unit costs no less than the one before. -/
theorem Opt.convex {zs : List PU} {f : Int} {xs ys rs : List Int} (ho : AllOk zs) (hx : Opt zs f xs) (hy : Opt zs (f + 1) ys) (hr : Opt zs (f + 2) rs) : costR zs ys - costR zs xs ≤ costR zs rs - costR zs ys := by
  obtain ⟨h1, v, u, ht⟩ := hy
  have p := (box_least ho ht.box (hx.feas ho)).1
  have q := (box_least ho ht.box (hr.feas ho)).1
  rw [h1, hx.1] at p
  rw [h1, hr.1] at q
  have e1 : v * (f + 1) = v * f + v := by grind
  have e2 : v * (f + 2) = v * f + v + v := by grind
  rw [e1] at p q
  rw [e2] at q
  omega

end En
end Go.Proofs.YthpldmlpononhaaGreat
