/-
Plain facts on numbers written in base 2^32, least word first: their value, their canonical words, and the long division by one word. No program occurs here; no conditions.
-/
namespace Go.Proofs.YtjajigkacccdgaaGreat
set_option linter.unusedVariables false
set_option linter.unusedSimpArgs false
namespace Wd

/-- The value of a list of words. -/
def val : List Nat → Nat
 | [] => 0
 | d :: l => d + 4294967296 * val l

/-- All words are below the base. -/
def Ws (l : List Nat) : Prop := ∀ d ∈ l, d < 4294967296

theorem Ws.nil : Ws [] := fun _ h => by cases h
theorem Ws.cons {d : Nat} {l : List Nat} (hd : d < 4294967296) (h : Ws l) : Ws (d :: l) := by
 intro x hx
 rcases List.mem_cons.1 hx with rfl | hx
 ·exact hd
 ·exact h x hx
theorem Ws.head {d : Nat} {l : List Nat} (h : Ws (d :: l)) : d < 4294967296 := h d (List.mem_cons_self ..)
theorem Ws.tail {d : Nat} {l : List Nat} (h : Ws (d :: l)) : Ws l := fun x hx => h x (List.mem_cons_of_mem _ hx)

theorem Ws.take {l : List Nat} (h : Ws l) (k : Nat) : Ws (l.take k) := fun x hx => h x (List.mem_of_mem_take hx)

theorem Ws.get {l : List Nat} (h : Ws l) (k : Nat) : l[k]?.getD 0 < 4294967296 := by
 rcases Nat.lt_or_ge k l.length with hk | hk
 ·rw [List.getElem?_eq_getElem hk]; exact h _ (List.getElem_mem hk)
 ·rw [List.getElem?_eq_none hk]; decide

theorem val_nil : val [] = 0 := rfl
theorem val_cons (d : Nat) (l : List Nat) : val (d :: l) = d + 4294967296 * val l := rfl
theorem val_append (a b : List Nat) : val (a ++ b) = val a + 4294967296 ^ a.length * val b := by
 induction a with
 | nil => simp [val]
 | cons d a ih =>
  simp only [List.cons_append, val_cons, ih, List.length_cons, Nat.pow_succ, Nat.mul_add]
  rw [show 4294967296 * (4294967296 ^ a.length * val b) = 4294967296 ^ a.length * 4294967296 * val b by
   rw [← Nat.mul_assoc, Nat.mul_comm 4294967296 (4294967296 ^ a.length)]]
  omega
theorem val_snoc (a : List Nat) (d : Nat) : val (a ++ [d]) = val a + 4294967296 ^ a.length * d := by
 rw [val_append]; simp [val]
theorem val_lt {l : List Nat} (h : Ws l) : val l < 4294967296 ^ l.length := by
 induction l with
 | nil => simp [val]
 | cons d l ih =>
  have h1 := ih h.tail
  have h2 := h.head
  simp only [val_cons, List.length_cons, Nat.pow_succ]
  omega
theorem val_replicate_zero (n : Nat) : val (List.replicate n 0) = 0 := by
 induction n with
 | zero => rfl
 | succ n ih => rw [List.replicate_succ, val_cons, ih]
theorem val_take_drop (l : List Nat) (k : Nat) (hk : k ≤ l.length) : val l = val (l.take k) + 4294967296 ^ k * val (l.drop k) := by
 have := val_append (l.take k) (l.drop k)
 rw [List.take_append_drop, List.length_take, Nat.min_eq_left hk] at this
 exact this

/-- The canonical words of a number. -/
def digs (n : Nat) : List Nat := if h : n = 0 then [] else n % 4294967296 :: digs (n / 4294967296)
 termination_by n
 decreasing_by exact Nat.div_lt_self (Nat.pos_of_ne_zero h) (by decide)

theorem digs_zero : digs 0 = [] := by rw [digs]; simp
theorem digs_pos {n : Nat} (h : n ≠ 0) : digs n = n % 4294967296 :: digs (n / 4294967296) := by
 rw [digs]; simp [h]
theorem digs_nil {n : Nat} (h : digs n = []) : n = 0 := by
 rcases Nat.eq_zero_or_pos n with h0 | h0
 ·exact h0
 ·rw [digs_pos (by omega)] at h; cases h

theorem val_digs (n : Nat) : val (digs n) = n := by
 induction n using Nat.strongRecOn with
 | _ n ih =>
  rcases Nat.eq_zero_or_pos n with h0 | h0
  ·subst h0; rw [digs_zero]; rfl
  ·rw [digs_pos (by omega), val_cons, ih _ (Nat.div_lt_self h0 (by decide))]
   omega
theorem digs_cons_pos {d n : Nat} (hd : d < 4294967296) (h : d + 4294967296 * n ≠ 0) : digs (d + 4294967296 * n) = d :: digs n := by
 rw [digs_pos h]
 have h1 : (d + 4294967296 * n) % 4294967296 = d := by omega
 have h2 : (d + 4294967296 * n) / 4294967296 = n := by omega
 rw [h1, h2]

/-- A list of words whose last word is not zero is the canonical one. -/
theorem digs_val {l : List Nat} (h : Ws l) (hl : l.getLast? ≠ some 0) : digs (val l) = l := by
 induction l with
 | nil => exact digs_zero
 | cons d l ih =>
  have hne : val (d :: l) ≠ 0 := by
   clear ih
   induction l generalizing d with
   | nil =>
    simp only [List.getLast?_singleton, ne_eq, Option.some.injEq] at hl
    simp only [val]; omega
   | cons e l ih =>
    have := ih e h.tail (by simpa [List.getLast?_cons_cons] using hl)
    rw [val_cons]; omega
  rw [val_cons] at hne ⊢
  rw [digs_cons_pos h.head hne, ih h.tail ?_]
  cases l with
  | nil => simp
  | cons e l => simpa [List.getLast?_cons_cons] using hl

/-- Dropping a zero at the end keeps the value. -/
theorem val_snoc_zero (a : List Nat) : val (a ++ [0]) = val a := by rw [val_snoc]; simp

theorem digs_len_le {n k : Nat} : (digs n).length ≤ k ↔ n < 4294967296 ^ k := by
 induction k generalizing n with
 | zero =>
  constructor
  ·intro h
   have := digs_nil (List.eq_nil_of_length_eq_zero (by omega : (digs n).length = 0))
   omega
  ·intro h
   have : n = 0 := by simpa using h
   subst this; rw [digs_zero]; simp
 | succ k ih =>
  rcases Nat.eq_zero_or_pos n with h0 | h0
  ·subst h0; rw [digs_zero]; simp [Nat.pow_pos]
  ·rw [digs_pos (by omega), List.length_cons, Nat.pow_succ]
   have := @ih (n / 4294967296)
   rw [Nat.add_le_add_iff_right, this, Nat.div_lt_iff_lt_mul (by decide)]
theorem digs_len_lt {n k : Nat} : k < (digs n).length ↔ 4294967296 ^ k ≤ n := by
 have := @digs_len_le n k; omega

theorem pow2 : (4294967296 : Nat) ^ 2 = 18446744073709551616 := by decide
theorem digs_small {n : Nat} (h0 : n ≠ 0) (h : n < 4294967296) : digs n = [n] := by
 rw [digs_pos h0, Nat.mod_eq_of_lt h, Nat.div_eq_of_lt h, digs_zero]
theorem digs_two {n : Nat} (h0 : 4294967296 ≤ n) (h : n < 18446744073709551616) : digs n = [n % 4294967296, n / 4294967296] := by
 rw [digs_pos (by omega), digs_small (by omega) (by omega)]




/-- The canonical words are a part of every list of words with that value. -/
theorem digs_take {l : List Nat} (h : Ws l) : l.take (digs (val l)).length = digs (val l) := by
 suffices H : ∀ n, ∀ l : List Nat, l.length = n → Ws l → l.take (digs (val l)).length = digs (val l) from H _ l rfl h
 intro n
 induction n with
 | zero =>
  intro l hl _
  have : l = [] := List.eq_nil_of_length_eq_zero hl
  subst this; simp [val, digs_zero]
 | succ n ih =>
  intro l hl hw
  by_cases hz : l.getLast? = some 0
  ·obtain ⟨a, rfl⟩ : ∃ a, l = a ++ [0] := by
    rw [List.getLast?_eq_some_iff] at hz
    exact hz
   have ha : a.length = n := by simpa using hl
   have hwa : Ws a := fun x hx => hw x (by simp [hx])
   have hi := ih a ha hwa
   rw [val_snoc_zero]
   have hle : (digs (val a)).length ≤ a.length := digs_len_le.2 (val_lt hwa)
   rw [List.take_append_of_le_length hle]
   exact hi
  ·rw [digs_val hw hz, List.take_length]

/-- Comparing two lists of equal length word by word, from the top. -/
theorem val_lt_of_top {a b : List Nat} (ha : Ws a) (k : Nat) (hka : k < a.length) (hkb : k < b.length)
  (h : a[k] < b[k]) (hu : ∀ j, k < j → a[j]?.getD 0 = b[j]?.getD 0) (hl : a.length = b.length) : val a < val b := by
 have e1 := val_take_drop a (k + 1) (by omega)
 have e2 := val_take_drop b (k + 1) (by omega)
 have hd : a.drop (k + 1) = b.drop (k + 1) := by
  apply List.ext_getElem
  ·simp [hl]
  ·intro i h1 h2
   have := hu (k + 1 + i) (by omega)
   simp only [List.length_drop] at h1 h2
   rw [List.getElem?_eq_getElem (by omega), List.getElem?_eq_getElem (by omega)] at this
   simpa using this
 have t1 : a.take (k + 1) = a.take k ++ [a[k]] := by rw [List.take_succ_eq_append_getElem hka]
 have t2 : b.take (k + 1) = b.take k ++ [b[k]] := by rw [List.take_succ_eq_append_getElem hkb]
 have l1 : val (a.take k) < 4294967296 ^ k := by
  have := val_lt (ha.take k)
  rwa [List.length_take, Nat.min_eq_left (by omega)] at this
 rw [e1, e2, hd, t1, t2, val_snoc, val_snoc, List.length_take, List.length_take, Nat.min_eq_left (by omega), Nat.min_eq_left (by omega)]
 have : 4294967296 ^ k * a[k] + 4294967296 ^ k ≤ 4294967296 ^ k * b[k] := by
  rw [← Nat.mul_succ]; exact Nat.mul_le_mul_left _ h
 omega

end Wd
end Go.Proofs.YtjajigkacccdgaaGreat
