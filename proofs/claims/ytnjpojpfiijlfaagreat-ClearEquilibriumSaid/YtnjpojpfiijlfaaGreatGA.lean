/-
Plain facts on numbers written in base 2^32, least word first: their value, their canonical words, and the long division by one word. No program occurs here; no conditions. Plain facts on the schoolbook product of two lists of words. No program occurs here; no conditions. No statement of the seat is proved here; no conditions beyond those of each theorem.
-/
namespace Go.Proofs.YtnjpojpfiijlfaaGreat
set_option linter.unusedVariables false
set_option linter.unusedSimpArgs false
namespace Wd

/-- The value of a list of words. -/
def val : List Nat → Nat
  | [] => 0
  | d :: l => d + 4294967296 * val l

/-- All words are below the base. -/
def Ws (l : List Nat) : Prop := ∀ d ∈ l, d < 4294967296

theorem Ws.nil : Ws [] := fun _ h => by cases h
theorem Ws.cons {d : Nat} {l : List Nat} (hd : d < 4294967296) (h : Ws l) : Ws (d :: l) := by
  intro x hx
  rcases List.mem_cons.1 hx with rfl | hx
  · exact hd
  · exact h x hx
theorem Ws.head {d : Nat} {l : List Nat} (h : Ws (d :: l)) : d < 4294967296 := h d (List.mem_cons_self ..)
theorem Ws.tail {d : Nat} {l : List Nat} (h : Ws (d :: l)) : Ws l := fun x hx => h x (List.mem_cons_of_mem _ hx)
theorem Ws.append {a b : List Nat} (ha : Ws a) (hb : Ws b) : Ws (a ++ b) := by
  intro x hx
  rcases List.mem_append.1 hx with h | h
  · exact ha x h
  · exact hb x h
theorem Ws.take {l : List Nat} (h : Ws l) (k : Nat) : Ws (l.take k) := fun x hx => h x (List.mem_of_mem_take hx)
theorem Ws.drop {l : List Nat} (h : Ws l) (k : Nat) : Ws (l.drop k) := fun x hx => h x (List.mem_of_mem_drop hx)
theorem Ws.get {l : List Nat} (h : Ws l) (k : Nat) : l[k]?.getD 0 < 4294967296 := by
  rcases Nat.lt_or_ge k l.length with hk | hk
  · rw [List.getElem?_eq_getElem hk]; exact h _ (List.getElem_mem hk)
  · rw [List.getElem?_eq_none hk]; decide

theorem val_nil : val [] = 0 := rfl
theorem val_cons (d : Nat) (l : List Nat) : val (d :: l) = d + 4294967296 * val l := rfl
theorem val_append (a b : List Nat) : val (a ++ b) = val a + 4294967296 ^ a.length * val b := by
  induction a with
  | nil => simp [val]
  | cons d a ih =>
    simp only [List.cons_append, val_cons, ih, List.length_cons, Nat.pow_succ, Nat.mul_add]
    rw [show 4294967296 * (4294967296 ^ a.length * val b) = 4294967296 ^ a.length * 4294967296 * val b by
      rw [← Nat.mul_assoc, Nat.mul_comm 4294967296 (4294967296 ^ a.length)]]
    omega
theorem val_snoc (a : List Nat) (d : Nat) : val (a ++ [d]) = val a + 4294967296 ^ a.length * d := by
  rw [val_append]; simp [val]
theorem val_lt {l : List Nat} (h : Ws l) : val l < 4294967296 ^ l.length := by
  induction l with
  | nil => simp [val]
  | cons d l ih =>
    have h1 := ih h.tail
    have h2 := h.head
    simp only [val_cons, List.length_cons, Nat.pow_succ]
    omega
theorem val_replicate_zero (n : Nat) : val (List.replicate n 0) = 0 := by
  induction n with
  | zero => rfl
  | succ n ih => rw [List.replicate_succ, val_cons, ih]
theorem val_take_drop (l : List Nat) (k : Nat) (hk : k ≤ l.length) : val l = val (l.take k) + 4294967296 ^ k * val (l.drop k) := by
  have := val_append (l.take k) (l.drop k)
  rw [List.take_append_drop, List.length_take, Nat.min_eq_left hk] at this
  exact this

/-- The canonical words of a number. -/
def digs (n : Nat) : List Nat := if h : n = 0 then [] else n % 4294967296 :: digs (n / 4294967296)
  termination_by n
  decreasing_by exact Nat.div_lt_self (Nat.pos_of_ne_zero h) (by decide)

theorem digs_zero : digs 0 = [] := by rw [digs]; simp
theorem digs_pos {n : Nat} (h : n ≠ 0) : digs n = n % 4294967296 :: digs (n / 4294967296) := by
  rw [digs]; simp [h]
theorem digs_nil {n : Nat} (h : digs n = []) : n = 0 := by
  rcases Nat.eq_zero_or_pos n with h0 | h0
  · exact h0
  · rw [digs_pos (by omega)] at h; cases h
theorem digs_Ws (n : Nat) : Ws (digs n) := by
  induction n using Nat.strongRecOn with
  | _ n ih =>
    rcases Nat.eq_zero_or_pos n with h0 | h0
    · subst h0; rw [digs_zero]; exact Ws.nil
    · rw [digs_pos (by omega)]
      exact Ws.cons (Nat.mod_lt _ (by decide)) (ih _ (Nat.div_lt_self h0 (by decide)))
theorem val_digs (n : Nat) : val (digs n) = n := by
  induction n using Nat.strongRecOn with
  | _ n ih =>
    rcases Nat.eq_zero_or_pos n with h0 | h0
    · subst h0; rw [digs_zero]; rfl
    · rw [digs_pos (by omega), val_cons, ih _ (Nat.div_lt_self h0 (by decide))]
      omega
theorem digs_cons_pos {d n : Nat} (hd : d < 4294967296) (h : d + 4294967296 * n ≠ 0) : digs (d + 4294967296 * n) = d :: digs n := by
  rw [digs_pos h]
  have h1 : (d + 4294967296 * n) % 4294967296 = d := by omega
  have h2 : (d + 4294967296 * n) / 4294967296 = n := by omega
  rw [h1, h2]

/-- A list of words whose last word is not zero is the canonical one. -/
theorem digs_val {l : List Nat} (h : Ws l) (hl : l.getLast? ≠ some 0) : digs (val l) = l := by
  induction l with
  | nil => exact digs_zero
  | cons d l ih =>
    have hne : val (d :: l) ≠ 0 := by
      clear ih
      induction l generalizing d with
      | nil =>
        simp only [List.getLast?_singleton, ne_eq, Option.some.injEq] at hl
        simp only [val]; omega
      | cons e l ih =>
        have := ih e h.tail (by simpa [List.getLast?_cons_cons] using hl)
        rw [val_cons]; omega
    rw [val_cons] at hne ⊢
    rw [digs_cons_pos h.head hne, ih h.tail ?_]
    cases l with
    | nil => simp
    | cons e l => simpa [List.getLast?_cons_cons] using hl
theorem digs_last (n : Nat) : (digs n).getLast? ≠ some 0 := by
  induction n using Nat.strongRecOn with
  | _ n ih =>
    rcases Nat.eq_zero_or_pos n with h0 | h0
    · subst h0; rw [digs_zero]; simp
    · rw [digs_pos (by omega)]
      have h1 := ih _ (Nat.div_lt_self h0 (by decide : 1 < 4294967296))
      by_cases h2 : n / 4294967296 = 0
      · rw [h2, digs_zero]; simp; omega
      · rw [digs_pos h2] at h1 ⊢
        rw [List.getLast?_cons_cons]; exact h1

/-- Dropping a zero at the end keeps the value. -/
theorem val_snoc_zero (a : List Nat) : val (a ++ [0]) = val a := by rw [val_snoc]; simp

theorem digs_len_le {n k : Nat} : (digs n).length ≤ k ↔ n < 4294967296 ^ k := by
  induction k generalizing n with
  | zero =>
    constructor
    · intro h
      have := digs_nil (List.eq_nil_of_length_eq_zero (by omega : (digs n).length = 0))
      omega
    · intro h
      have : n = 0 := by simpa using h
      subst this; rw [digs_zero]; simp
  | succ k ih =>
    rcases Nat.eq_zero_or_pos n with h0 | h0
    · subst h0; rw [digs_zero]; simp [Nat.pow_pos]
    · rw [digs_pos (by omega), List.length_cons, Nat.pow_succ]
      have := @ih (n / 4294967296)
      rw [Nat.add_le_add_iff_right, this, Nat.div_lt_iff_lt_mul (by decide)]
theorem digs_len_lt {n k : Nat} : k < (digs n).length ↔ 4294967296 ^ k ≤ n := by
  have := @digs_len_le n k; omega
theorem digs_len_mono {m n : Nat} (h : m ≤ n) : (digs m).length ≤ (digs n).length := by
  rw [digs_len_le]
  have := (@digs_len_le n (digs n).length).1 (Nat.le_refl _)
  omega

theorem pow2 : (4294967296 : Nat) ^ 2 = 18446744073709551616 := by decide
theorem digs_small {n : Nat} (h0 : n ≠ 0) (h : n < 4294967296) : digs n = [n] := by
  rw [digs_pos h0, Nat.mod_eq_of_lt h, Nat.div_eq_of_lt h, digs_zero]
theorem digs_two {n : Nat} (h0 : 4294967296 ≤ n) (h : n < 18446744073709551616) : digs n = [n % 4294967296, n / 4294967296] := by
  rw [digs_pos (by omega), digs_small (by omega) (by omega)]

/-- The words of a list without the zeros at its end. -/
def trimL (l : List Nat) : List Nat := digs (val l)
theorem trimL_snoc_zero (a : List Nat) : trimL (a ++ [0]) = trimL a := by unfold trimL; rw [val_snoc_zero]
theorem trimL_done {l : List Nat} (h : Ws l) (hl : l.getLast? ≠ some 0) : trimL l = l := digs_val h hl

/-- The canonical words are a part of every list of words with that value. -/
theorem digs_take {l : List Nat} (h : Ws l) : l.take (digs (val l)).length = digs (val l) := by
  suffices H : ∀ n, ∀ l : List Nat, l.length = n → Ws l → l.take (digs (val l)).length = digs (val l) from H _ l rfl h
  intro n
  induction n with
  | zero =>
    intro l hl _
    have : l = [] := List.eq_nil_of_length_eq_zero hl
    subst this; simp [val, digs_zero]
  | succ n ih =>
    intro l hl hw
    by_cases hz : l.getLast? = some 0
    · obtain ⟨a, rfl⟩ : ∃ a, l = a ++ [0] := by
        rw [List.getLast?_eq_some_iff] at hz
        exact hz
      have ha : a.length = n := by simpa using hl
      have hwa : Ws a := fun x hx => hw x (by simp [hx])
      have hi := ih a ha hwa
      rw [val_snoc_zero]
      have hle : (digs (val a)).length ≤ a.length := digs_len_le.2 (val_lt hwa)
      rw [List.take_append_of_le_length hle]
      exact hi
    · rw [digs_val hw hz, List.take_length]

/-- Comparing two lists of equal length word by word, from the top. -/
theorem val_lt_of_top {a b : List Nat} (ha : Ws a) (k : Nat) (hka : k < a.length) (hkb : k < b.length)
    (h : a[k] < b[k]) (hu : ∀ j, k < j → a[j]?.getD 0 = b[j]?.getD 0) (hl : a.length = b.length) : val a < val b := by
  have e1 := val_take_drop a (k + 1) (by omega)
  have e2 := val_take_drop b (k + 1) (by omega)
  have hd : a.drop (k + 1) = b.drop (k + 1) := by
    apply List.ext_getElem
    · simp [hl]
    · intro i h1 h2
      have := hu (k + 1 + i) (by omega)
      simp only [List.length_drop] at h1 h2
      rw [List.getElem?_eq_getElem (by omega), List.getElem?_eq_getElem (by omega)] at this
      simpa using this
  have t1 : a.take (k + 1) = a.take k ++ [a[k]] := by rw [List.take_succ_eq_append_getElem hka]
  have t2 : b.take (k + 1) = b.take k ++ [b[k]] := by rw [List.take_succ_eq_append_getElem hkb]
  have l1 : val (a.take k) < 4294967296 ^ k := by
    have := val_lt (ha.take k)
    rwa [List.length_take, Nat.min_eq_left (by omega)] at this
  rw [e1, e2, hd, t1, t2, val_snoc, val_snoc, List.length_take, List.length_take, Nat.min_eq_left (by omega), Nat.min_eq_left (by omega)]
  have : 4294967296 ^ k * a[k] + 4294967296 ^ k ≤ 4294967296 ^ k * b[k] := by
    rw [← Nat.mul_succ]; exact Nat.mul_le_mul_left _ h
  omega

end Wd
end Go.Proofs.YtnjpojpfiijlfaaGreat

namespace Go.Proofs.YtnjpojpfiijlfaaGreat
set_option linter.unusedVariables false
set_option linter.unusedSimpArgs false
namespace Wd

theorem val_set {p : List Nat} {j : Nat} (d : Nat) (hj : j < p.length) : val (p.set j d) + 4294967296 ^ j * p[j]?.getD 0 = val p + 4294967296 ^ j * d := by
  induction p generalizing j with
  | nil => simp at hj
  | cons e p ih =>
    cases j with
    | zero => simp [val]; omega
    | succ j =>
      have h := ih (j := j) (by simpa using hj)
      simp only [List.set_cons_succ, val_cons, List.getElem?_cons_succ, Nat.pow_succ]
      grind
theorem Ws.set {p : List Nat} (h : Ws p) (j : Nat) {d : Nat} (hd : d < 4294967296) : Ws (p.set j d) := by
  intro x hx
  rcases List.mem_or_eq_of_mem_set hx with h1 | h1
  · exact h x h1
  · subst h1; exact hd
theorem get_set_other {p : List Nat} {i j : Nat} (d : Nat) (h : i ≠ j) : (p.set i d)[j]?.getD 0 = p[j]?.getD 0 := by
  rw [List.getElem?_set_ne h]

/-- Where the product stands after k words of b have been multiplied by x and added from word i on. -/
structure MInv (p0 : List Nat) (x : Nat) (b : List Nat) (i k : Nat) (p : List Nat) (c : Nat) : Prop where
  len : p.length = p0.length
  ws : Ws p
  cl : c < 4294967296
  eq : val p + c * 4294967296 ^ (i + k) = val p0 + x * val (b.take k) * 4294967296 ^ i
  rest : ∀ j, i + k ≤ j → p[j]?.getD 0 = p0[j]?.getD 0

theorem MInv.start {p0 : List Nat} (x : Nat) (b : List Nat) (i : Nat) (h : Ws p0) : MInv p0 x b i 0 p0 0 :=
  ⟨rfl, h, by decide, by simp [val], fun _ _ => rfl⟩

theorem MInv.bound {p0 b p : List Nat} {x i k c : Nat} (h : MInv p0 x b i k p c) (hx : x < 4294967296) (hb : Ws b) :
    p[i + k]?.getD 0 + x * b[k]?.getD 0 + c < 18446744073709551616 := by
  have h1 := h.ws.get (i + k)
  have h2 := hb.get k
  have h3 := h.cl
  have h4 : x * b[k]?.getD 0 ≤ 4294967295 * 4294967295 := Nat.mul_le_mul (by omega) (by omega)
  omega

theorem MInv.step {p0 b p : List Nat} {x i k c : Nat} (h : MInv p0 x b i k p c) (hx : x < 4294967296) (hb : Ws b) (hk : k < b.length) (hl : i + k < p0.length) :
    MInv p0 x b i (k + 1) (p.set (i + k) ((p[i + k]?.getD 0 + x * b[k]?.getD 0 + c) % 4294967296)) ((p[i + k]?.getD 0 + x * b[k]?.getD 0 + c) / 4294967296) := by
  have hbd := h.bound hx hb
  have hset := val_set (p := p) (j := i + k) ((p[i + k]?.getD 0 + x * b[k]?.getD 0 + c) % 4294967296) (by rw [h.len]; exact hl)
  have he := h.eq
  refine ⟨by rw [List.length_set]; exact h.len, h.ws.set _ (Nat.mod_lt _ (by decide)), ?_, ?_, ?_⟩
  · omega
  · have ht : b.take (k + 1) = b.take k ++ [b[k]?.getD 0] := by
      rw [List.take_succ_eq_append_getElem hk, List.getElem?_eq_getElem hk]; rfl
    rw [ht, val_snoc, List.length_take, Nat.min_eq_left (by omega)]
    rw [show i + (k + 1) = (i + k) + 1 by omega, Nat.pow_succ]
    rw [show 4294967296 ^ (i + k) = 4294967296 ^ i * 4294967296 ^ k from Nat.pow_add ..] at *
    generalize p[i + k]?.getD 0 = q at *
    generalize b[k]?.getD 0 = y at *
    generalize hT : q + x * y + c = T at *
    have hdm := Nat.div_add_mod T 4294967296
    generalize T / 4294967296 = D at *
    generalize T % 4294967296 = R at *
    generalize val (p.set (i + k) R) = V at *
    generalize val p = U at *
    generalize val p0 = U0 at *
    generalize val (b.take k) = Y at *
    generalize 4294967296 ^ i = M at *
    generalize 4294967296 ^ k = N at *
    subst hT
    have e1 : M * N * (4294967296 * D + R) = M * N * (q + x * y + c) := by rw [hdm]
    grind
  · intro j hj
    rw [get_set_other _ (by omega)]
    exact h.rest j (by omega)

/-- After all words of b the carry goes into the next word. -/
theorem MInv.last {p0 b p : List Nat} {x i c : Nat} (h : MInv p0 x b i b.length p c) (hl : i + b.length < p0.length) (hz : p0[i + b.length]?.getD 0 = 0) :
    Ws (p.set (i + b.length) c) ∧ (p.set (i + b.length) c).length = p0.length ∧ val (p.set (i + b.length) c) = val p0 + x * val b * 4294967296 ^ i ∧ ∀ j, i + 1 + b.length ≤ j → (p.set (i + b.length) c)[j]?.getD 0 = p0[j]?.getD 0 := by
  have hset := val_set (p := p) (j := i + b.length) c (by rw [h.len]; exact hl)
  have h0 : p[i + b.length]?.getD 0 = 0 := by rw [h.rest _ (Nat.le_refl _), hz]
  have he := h.eq
  rw [List.take_length] at he
  rw [h0] at hset
  refine ⟨h.ws.set _ h.cl, by rw [List.length_set]; exact h.len, ?_, fun j hj => ?_⟩
  · grind
  · rw [get_set_other _ (by omega)]
    exact h.rest j (by omega)

/-- Where the product stands after i words of a. -/
structure OInv (a b : List Nat) (i : Nat) (p : List Nat) : Prop where
  len : p.length = a.length + b.length
  ws : Ws p
  eq : val p = val (a.take i) * val b
  rest : ∀ j, i + b.length ≤ j → p[j]?.getD 0 = 0

theorem OInv.start (a b : List Nat) : OInv a b 0 (List.replicate (a.length + b.length) 0) :=
  ⟨by simp, fun d hd => by rw [List.eq_of_mem_replicate hd]; decide, by rw [val_replicate_zero]; simp [val], fun j _ => by
    rw [List.getElem?_replicate]; split <;> rfl⟩

theorem OInv.step {a b p0 p : List Nat} {i c : Nat} (h : OInv a b i p0) (hi : i < a.length) (hm : MInv p0 (a[i]?.getD 0) b i b.length p c) : OInv a b (i + 1) (p.set (i + b.length) c) := by
  obtain ⟨h1, h2, h3, h4⟩ := hm.last (by rw [h.len]; omega) (h.rest _ (Nat.le_refl _))
  refine ⟨h2.trans h.len, h1, ?_, fun j hj => ?_⟩
  · rw [h3, h.eq]
    have ht : a.take (i + 1) = a.take i ++ [a[i]?.getD 0] := by
      rw [List.take_succ_eq_append_getElem hi, List.getElem?_eq_getElem hi]; rfl
    rw [ht, val_snoc, List.length_take, Nat.min_eq_left (by omega)]
    grind
  · rw [h4 j hj]; exact h.rest j (by omega)

theorem OInv.done {a b p : List Nat} (h : OInv a b a.length p) : val p = val a * val b := by
  rw [h.eq, List.take_length]

end Wd
end Go.Proofs.YtnjpojpfiijlfaaGreat
