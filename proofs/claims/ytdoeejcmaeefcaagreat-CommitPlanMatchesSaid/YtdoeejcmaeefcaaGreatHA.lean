/-
Plain facts on numbers written in base 2^32, least word first: their value, their canonical words, and the long division by one word. No program occurs here; no conditions. Words in memory: what it says that a slice of 32-bit words reads as a list of numbers, and that this is kept. Plain law of package energy: a row that stands at a threshold of price and unit is the least of its sum, by cost and then by order. Plain law of package energy: filling the pieces of the units in order of price, and of the later unit first, gives the row at a threshold. No statement of the seat is proved here; no conditions beyond those of each theorem.
-/
import Derived.Test.YtdoeejcmaeefcaaGreatProg
import Derived.Tactics
import Derived.Tactics2
import Derived.WalkKit
import Derived.Below
import Derived.Lib.Hide
import Derived.KernelRfl
import Derived.OneCell
import Derived.WalkSpells
import Derived.Outline
import Derived.Deep.Draws
import Derived.Deep.QuietTactic
import Derived.BigQuiet
import Derived.Laws.Bits64
import Derived.Laws.BitsAllLaws
namespace Go.Proofs.YtdoeejcmaeefcaaGreat
set_option linter.unusedVariables false
set_option linter.unusedSimpArgs false
namespace Wd

/-- The value of a list of words. -/
def val : List Nat → Nat
  | [] => 0
  | d :: l => d + 4294967296 * val l

/-- All words are below the base. -/
def Ws (l : List Nat) : Prop := ∀ d ∈ l, d < 4294967296

theorem Ws.nil : Ws [] := fun _ h => by cases h
theorem Ws.cons {d : Nat} {l : List Nat} (hd : d < 4294967296) (h : Ws l) : Ws (d :: l) := by
  intro x hx
  rcases List.mem_cons.1 hx with rfl | hx
  · exact hd
  · exact h x hx
theorem Ws.head {d : Nat} {l : List Nat} (h : Ws (d :: l)) : d < 4294967296 := h d (List.mem_cons_self ..)
theorem Ws.tail {d : Nat} {l : List Nat} (h : Ws (d :: l)) : Ws l := fun x hx => h x (List.mem_cons_of_mem _ hx)
theorem Ws.append {a b : List Nat} (ha : Ws a) (hb : Ws b) : Ws (a ++ b) := by
  intro x hx
  rcases List.mem_append.1 hx with h | h
  · exact ha x h
  · exact hb x h
theorem Ws.take {l : List Nat} (h : Ws l) (k : Nat) : Ws (l.take k) := fun x hx => h x (List.mem_of_mem_take hx)
theorem Ws.drop {l : List Nat} (h : Ws l) (k : Nat) : Ws (l.drop k) := fun x hx => h x (List.mem_of_mem_drop hx)
theorem Ws.get {l : List Nat} (h : Ws l) (k : Nat) : l[k]?.getD 0 < 4294967296 := by
  rcases Nat.lt_or_ge k l.length with hk | hk
  · rw [List.getElem?_eq_getElem hk]; exact h _ (List.getElem_mem hk)
  · rw [List.getElem?_eq_none hk]; decide

theorem val_nil : val [] = 0 := rfl
theorem val_cons (d : Nat) (l : List Nat) : val (d :: l) = d + 4294967296 * val l := rfl
theorem val_append (a b : List Nat) : val (a ++ b) = val a + 4294967296 ^ a.length * val b := by
  induction a with
  | nil => simp [val]
  | cons d a ih =>
    simp only [List.cons_append, val_cons, ih, List.length_cons, Nat.pow_succ, Nat.mul_add]
    rw [show 4294967296 * (4294967296 ^ a.length * val b) = 4294967296 ^ a.length * 4294967296 * val b by
      rw [← Nat.mul_assoc, Nat.mul_comm 4294967296 (4294967296 ^ a.length)]]
    omega
theorem val_snoc (a : List Nat) (d : Nat) : val (a ++ [d]) = val a + 4294967296 ^ a.length * d := by
  rw [val_append]; simp [val]
theorem val_lt {l : List Nat} (h : Ws l) : val l < 4294967296 ^ l.length := by
  induction l with
  | nil => simp [val]
  | cons d l ih =>
    have h1 := ih h.tail
    have h2 := h.head
    simp only [val_cons, List.length_cons, Nat.pow_succ]
    omega
theorem val_replicate_zero (n : Nat) : val (List.replicate n 0) = 0 := by
  induction n with
  | zero => rfl
  | succ n ih => rw [List.replicate_succ, val_cons, ih]
theorem val_take_drop (l : List Nat) (k : Nat) (hk : k ≤ l.length) : val l = val (l.take k) + 4294967296 ^ k * val (l.drop k) := by
  have := val_append (l.take k) (l.drop k)
  rw [List.take_append_drop, List.length_take, Nat.min_eq_left hk] at this
  exact this

/-- The canonical words of a number. -/
def digs (n : Nat) : List Nat := if h : n = 0 then [] else n % 4294967296 :: digs (n / 4294967296)
  termination_by n
  decreasing_by exact Nat.div_lt_self (Nat.pos_of_ne_zero h) (by decide)

theorem digs_zero : digs 0 = [] := by rw [digs]; simp
theorem digs_pos {n : Nat} (h : n ≠ 0) : digs n = n % 4294967296 :: digs (n / 4294967296) := by
  rw [digs]; simp [h]
theorem digs_nil {n : Nat} (h : digs n = []) : n = 0 := by
  rcases Nat.eq_zero_or_pos n with h0 | h0
  · exact h0
  · rw [digs_pos (by omega)] at h; cases h
theorem digs_Ws (n : Nat) : Ws (digs n) := by
  induction n using Nat.strongRecOn with
  | _ n ih =>
    rcases Nat.eq_zero_or_pos n with h0 | h0
    · subst h0; rw [digs_zero]; exact Ws.nil
    · rw [digs_pos (by omega)]
      exact Ws.cons (Nat.mod_lt _ (by decide)) (ih _ (Nat.div_lt_self h0 (by decide)))
theorem val_digs (n : Nat) : val (digs n) = n := by
  induction n using Nat.strongRecOn with
  | _ n ih =>
    rcases Nat.eq_zero_or_pos n with h0 | h0
    · subst h0; rw [digs_zero]; rfl
    · rw [digs_pos (by omega), val_cons, ih _ (Nat.div_lt_self h0 (by decide))]
      omega
theorem digs_cons_pos {d n : Nat} (hd : d < 4294967296) (h : d + 4294967296 * n ≠ 0) : digs (d + 4294967296 * n) = d :: digs n := by
  rw [digs_pos h]
  have h1 : (d + 4294967296 * n) % 4294967296 = d := by omega
  have h2 : (d + 4294967296 * n) / 4294967296 = n := by omega
  rw [h1, h2]

/-- A list of words whose last word is not zero is the canonical one. -/
theorem digs_val {l : List Nat} (h : Ws l) (hl : l.getLast? ≠ some 0) : digs (val l) = l := by
  induction l with
  | nil => exact digs_zero
  | cons d l ih =>
    have hne : val (d :: l) ≠ 0 := by
      clear ih
      induction l generalizing d with
      | nil =>
        simp only [List.getLast?_singleton, ne_eq, Option.some.injEq] at hl
        simp only [val]; omega
      | cons e l ih =>
        have := ih e h.tail (by simpa [List.getLast?_cons_cons] using hl)
        rw [val_cons]; omega
    rw [val_cons] at hne ⊢
    rw [digs_cons_pos h.head hne, ih h.tail ?_]
    cases l with
    | nil => simp
    | cons e l => simpa [List.getLast?_cons_cons] using hl
theorem digs_last (n : Nat) : (digs n).getLast? ≠ some 0 := by
  induction n using Nat.strongRecOn with
  | _ n ih =>
    rcases Nat.eq_zero_or_pos n with h0 | h0
    · subst h0; rw [digs_zero]; simp
    · rw [digs_pos (by omega)]
      have h1 := ih _ (Nat.div_lt_self h0 (by decide : 1 < 4294967296))
      by_cases h2 : n / 4294967296 = 0
      · rw [h2, digs_zero]; simp; omega
      · rw [digs_pos h2] at h1 ⊢
        rw [List.getLast?_cons_cons]; exact h1

/-- Dropping a zero at the end keeps the value. -/
theorem val_snoc_zero (a : List Nat) : val (a ++ [0]) = val a := by rw [val_snoc]; simp

theorem digs_len_le {n k : Nat} : (digs n).length ≤ k ↔ n < 4294967296 ^ k := by
  induction k generalizing n with
  | zero =>
    constructor
    · intro h
      have := digs_nil (List.eq_nil_of_length_eq_zero (by omega : (digs n).length = 0))
      omega
    · intro h
      have : n = 0 := by simpa using h
      subst this; rw [digs_zero]; simp
  | succ k ih =>
    rcases Nat.eq_zero_or_pos n with h0 | h0
    · subst h0; rw [digs_zero]; simp [Nat.pow_pos]
    · rw [digs_pos (by omega), List.length_cons, Nat.pow_succ]
      have := @ih (n / 4294967296)
      rw [Nat.add_le_add_iff_right, this, Nat.div_lt_iff_lt_mul (by decide)]
theorem digs_len_lt {n k : Nat} : k < (digs n).length ↔ 4294967296 ^ k ≤ n := by
  have := @digs_len_le n k; omega
theorem digs_len_mono {m n : Nat} (h : m ≤ n) : (digs m).length ≤ (digs n).length := by
  rw [digs_len_le]
  have := (@digs_len_le n (digs n).length).1 (Nat.le_refl _)
  omega

theorem pow2 : (4294967296 : Nat) ^ 2 = 18446744073709551616 := by decide
theorem digs_small {n : Nat} (h0 : n ≠ 0) (h : n < 4294967296) : digs n = [n] := by
  rw [digs_pos h0, Nat.mod_eq_of_lt h, Nat.div_eq_of_lt h, digs_zero]
theorem digs_two {n : Nat} (h0 : 4294967296 ≤ n) (h : n < 18446744073709551616) : digs n = [n % 4294967296, n / 4294967296] := by
  rw [digs_pos (by omega), digs_small (by omega) (by omega)]

/-- The words of a list without the zeros at its end. -/
def trimL (l : List Nat) : List Nat := digs (val l)
theorem trimL_snoc_zero (a : List Nat) : trimL (a ++ [0]) = trimL a := by unfold trimL; rw [val_snoc_zero]
theorem trimL_done {l : List Nat} (h : Ws l) (hl : l.getLast? ≠ some 0) : trimL l = l := digs_val h hl

/-- The canonical words are a part of every list of words with that value. -/
theorem digs_take {l : List Nat} (h : Ws l) : l.take (digs (val l)).length = digs (val l) := by
  suffices H : ∀ n, ∀ l : List Nat, l.length = n → Ws l → l.take (digs (val l)).length = digs (val l) from H _ l rfl h
  intro n
  induction n with
  | zero =>
    intro l hl _
    have : l = [] := List.eq_nil_of_length_eq_zero hl
    subst this; simp [val, digs_zero]
  | succ n ih =>
    intro l hl hw
    by_cases hz : l.getLast? = some 0
    · obtain ⟨a, rfl⟩ : ∃ a, l = a ++ [0] := by
        rw [List.getLast?_eq_some_iff] at hz
        exact hz
      have ha : a.length = n := by simpa using hl
      have hwa : Ws a := fun x hx => hw x (by simp [hx])
      have hi := ih a ha hwa
      rw [val_snoc_zero]
      have hle : (digs (val a)).length ≤ a.length := digs_len_le.2 (val_lt hwa)
      rw [List.take_append_of_le_length hle]
      exact hi
    · rw [digs_val hw hz, List.take_length]

/-- Comparing two lists of equal length word by word, from the top. -/
theorem val_lt_of_top {a b : List Nat} (ha : Ws a) (k : Nat) (hka : k < a.length) (hkb : k < b.length)
    (h : a[k] < b[k]) (hu : ∀ j, k < j → a[j]?.getD 0 = b[j]?.getD 0) (hl : a.length = b.length) : val a < val b := by
  have e1 := val_take_drop a (k + 1) (by omega)
  have e2 := val_take_drop b (k + 1) (by omega)
  have hd : a.drop (k + 1) = b.drop (k + 1) := by
    apply List.ext_getElem
    · simp [hl]
    · intro i h1 h2
      have := hu (k + 1 + i) (by omega)
      simp only [List.length_drop] at h1 h2
      rw [List.getElem?_eq_getElem (by omega), List.getElem?_eq_getElem (by omega)] at this
      simpa using this
  have t1 : a.take (k + 1) = a.take k ++ [a[k]] := by rw [List.take_succ_eq_append_getElem hka]
  have t2 : b.take (k + 1) = b.take k ++ [b[k]] := by rw [List.take_succ_eq_append_getElem hkb]
  have l1 : val (a.take k) < 4294967296 ^ k := by
    have := val_lt (ha.take k)
    rwa [List.length_take, Nat.min_eq_left (by omega)] at this
  rw [e1, e2, hd, t1, t2, val_snoc, val_snoc, List.length_take, List.length_take, Nat.min_eq_left (by omega), Nat.min_eq_left (by omega)]
  have : 4294967296 ^ k * a[k] + 4294967296 ^ k ≤ 4294967296 ^ k * b[k] := by
    rw [← Nat.mul_succ]; exact Nat.mul_le_mul_left _ h
  omega

end Wd
end Go.Proofs.YtdoeejcmaeefcaaGreat

namespace Go.Proofs.YtdoeejcmaeefcaaGreat
set_option linter.unusedVariables false
set_option linter.unusedSimpArgs false
open Go.RowKit
open Wd

/-- The slice value with address A and length n reads as the words l. -/
def Wat (w : World) (A : Option Addr) (n : Nat) (l : List Nat) : Prop :=
  l.length = n ∧ Ws l ∧ (n ≠ 0 → ∃ b o, A = some ⟨b, o, none⟩ ∧ b < w.heap.size ∧ ∀ j, j < n → w.cell? ⟨b, o + j, none⟩ = some (.int .u32 ((l[j]?.getD 0 : Nat) : Int)))

/-- Its cells lie from block base on, and may be written. -/
def Fresh (base : Nat) (w : World) (A : Option Addr) (n : Nat) : Prop :=
  n ≠ 0 → ∃ b o, A = some ⟨b, o, none⟩ ∧ base ≤ b ∧ ∀ j, j < n → w.frozen? ⟨b, o + j, none⟩ = false

section
variable {w w' : World} {A : Option Addr} {n : Nat} {l : List Nat} {base : Nat}

theorem Wat.nil : Wat w A 0 [] := ⟨rfl, Ws.nil, fun h => absurd rfl h⟩
theorem Wat.keep (h : Wat w A n l) (hs : w.heap.size ≤ w'.heap.size) (hk : ∀ p : Addr, p.block < w.heap.size → w'.cell? p = w.cell? p) : Wat w' A n l := by
  refine ⟨h.1, h.2.1, fun hn => ?_⟩
  obtain ⟨b, o, rfl, hb, hc⟩ := h.2.2 hn
  exact ⟨b, o, rfl, by omega, fun j hj => (hk _ hb).trans (hc j hj)⟩
theorem Wat.below (h : Wat w A n l) (hb : Below w.heap.size w w') : Wat w' A n l := h.keep hb.size fun _ hp => hb.cell hp
theorem Wat.within {B : Nat} (h : Wat w A n l) (hb : Below B w w') (hB : w.heap.size ≤ B) : Wat w' A n l := h.below (hb.mono hB)
theorem Wat.drew (h : Wat w A n l) : Wat w.drew A n l := h
theorem Wat.drewN (h : Wat w A n l) (k : Nat) : Wat (w.drewN k) A n l := h
theorem Wat.alloc (h : Wat w A n l) (o : Obj) : Wat (w.alloc o) A n l := h.below ((Below.refl _ _).alloc (Nat.le_refl _) o)
theorem Fresh.nil : Fresh base w A 0 := fun h => absurd rfl h
theorem Fresh.keep (h : Fresh base w A n) (hl : Wat w A n l) (hs : Below w.heap.size w w') : Fresh base w' A n := by
  intro hn
  obtain ⟨b, o, rfl, hb, hc⟩ := h hn
  obtain ⟨b', o', he, hlt, _⟩ := hl.2.2 hn
  cases he
  exact ⟨b, o, rfl, hb, fun j hj => (hs.frozen (p := ⟨b, o + j, none⟩) hlt).trans (hc j hj)⟩
theorem Fresh.mono {base' : Nat} (h : Fresh base w A n) (hb : base' ≤ base) : Fresh base' w A n := by
  intro hn
  obtain ⟨b, o, rfl, hb', hc⟩ := h hn
  exact ⟨b, o, rfl, by omega, hc⟩
theorem Wat.shorter (h : Wat w A n l) {k : Nat} (hk : k ≤ n) : Wat w A k (l.take k) := by
  refine ⟨by rw [List.length_take, h.1]; omega, h.2.1.take k, fun hn => ?_⟩
  obtain ⟨b, o, rfl, hb, hc⟩ := h.2.2 (by omega)
  refine ⟨b, o, rfl, hb, fun j hj => ?_⟩
  rw [List.getElem?_take, if_pos hj]
  exact hc j (by omega)
theorem Wat.trim (h : Wat w A n l) : Wat w A (digs (val l)).length (digs (val l)) := by
  have hle : (digs (val l)).length ≤ n := by have := digs_len_le.2 (val_lt h.2.1); rw [h.1] at this; exact this
  have := h.shorter hle
  rwa [digs_take h.2.1] at this
theorem Wat.trim_le (h : Wat w A n l) : (digs (val l)).length ≤ n := by
  have := digs_len_le.2 (val_lt h.2.1); rw [h.1] at this; exact this
theorem Fresh.shorter (h : Fresh base w A n) {k : Nat} (hk : k ≤ n) : Fresh base w A k := by
  intro hn
  obtain ⟨b, o, rfl, hb, hc⟩ := h (by omega)
  exact ⟨b, o, rfl, hb, fun j hj => hc j (by omega)⟩
end


theorem heap_new2 (w : World) (o1 o2 : Obj) : ((w.alloc o1).alloc o2).heap[w.heap.size + 1]? = some o2 := by
  have := heap_alloc_new (w.alloc o1) o2
  rwa [World.size_alloc] at this

/-- Block g is just the cells cs of element type t, none of them frozen. -/
def Blk (w : World) (g : Nat) (t : TypeId) (cs : Array Value) : Prop := w.heap[g]? = some (.cells cs t (0, 0))
section
variable {w w' : World} {g : Nat} {t : TypeId} {cs : Array Value} {a b c d a' b' c' d' : Value}
theorem Blk.lt (h : Blk w g t cs) : g < w.heap.size := by
  rcases Nat.lt_or_ge g w.heap.size with hlt | hge
  · exact hlt
  · unfold Blk at h; rw [Array.getElem?_eq_none hge] at h; cases h
theorem Blk.cell (h : Blk w g t cs) (i : Nat) : w.cell? ⟨g, i, none⟩ = cs[i]? := by
  unfold Blk at h; simp [World.cell?, h]
theorem Blk.frozen (h : Blk w g t cs) (i : Nat) : w.frozen? ⟨g, i, none⟩ = false := by
  unfold Blk at h; simp [World.frozen?, h]
theorem Blk.new (w : World) (t : TypeId) (cs : Array Value) : Blk (w.alloc (.cells cs t)) w.heap.size t cs := heap_alloc_new w _
theorem Blk.new1 (w : World) (o : Obj) (t : TypeId) (cs : Array Value) : Blk ((w.alloc o).alloc (.cells cs t)) (w.heap.size + 1) t cs := by
  have := Blk.new (w.alloc o) t cs; rwa [World.size_alloc] at this
theorem Blk.new2 (w : World) (o o' : Obj) (t : TypeId) (cs : Array Value) : Blk (((w.alloc o).alloc o').alloc (.cells cs t)) (w.heap.size + 1 + 1) t cs := by
  have := Blk.new1 (w.alloc o) o' t cs; rwa [World.size_alloc] at this
theorem Blk.new3 (w : World) (o o' o'' : Obj) (t : TypeId) (cs : Array Value) : Blk ((((w.alloc o).alloc o').alloc o'').alloc (.cells cs t)) (w.heap.size + 1 + 1 + 1) t cs := by
  have := Blk.new2 (w.alloc o) o' o'' t cs; rwa [World.size_alloc] at this
theorem Blk.new4 (w : World) (o o' o'' o3 : Obj) (t : TypeId) (cs : Array Value) : Blk (((((w.alloc o).alloc o').alloc o'').alloc o3).alloc (.cells cs t)) (w.heap.size + 1 + 1 + 1 + 1) t cs := by
  have := Blk.new3 (w.alloc o) o' o'' o3 t cs; rwa [World.size_alloc] at this
theorem Blk.new5 (w : World) (o o' o'' o3 o4 : Obj) (t : TypeId) (cs : Array Value) : Blk ((((((w.alloc o).alloc o').alloc o'').alloc o3).alloc o4).alloc (.cells cs t)) (w.heap.size + 1 + 1 + 1 + 1 + 1) t cs := by
  have := Blk.new4 (w.alloc o) o' o'' o3 o4 t cs; rwa [World.size_alloc] at this
theorem Blk.drew (h : Blk w g t cs) : Blk w.drew g t cs := h
theorem Blk.drewN (h : Blk w g t cs) (n : Nat) : Blk (w.drewN n) g t cs := h
theorem Blk.alloc (h : Blk w g t cs) (o : Obj) : Blk (w.alloc o) g t cs := (Below.heap_alloc w o g h.lt).trans h
theorem Blk.set (h : Blk w g t cs) (i : Nat) (u : Value) : Blk (w.setCell ⟨g, i, none⟩ u) g t (cs.setIfInBounds i u) := by
  unfold Blk at h ⊢
  simp [World.setCell, Array.getElem?_modify, h]
theorem Blk.far (h : Blk w g t cs) {p : Addr} (hp : g ≠ p.block) (u : Value) : Blk (w.setCell p u) g t cs := (Below.heap_setCell w p u g hp).trans h
theorem Blk.below {B : Nat} (h : Blk w g t cs) (hb : Below B w w') (hg : g < B) : Blk w' g t cs := (hb.block g hg).trans h
theorem Blk.one (h : Blk w g t #[a]) : w.cell? ⟨g, 0, none⟩ = some a ∧ w.frozen? ⟨g, 0, none⟩ = false := ⟨h.cell 0, h.frozen 0⟩
theorem Blk.two (h : Blk w g t #[a, b]) : w.cell? ⟨g, 0, none⟩ = some a ∧ w.cell? ⟨g, 1, none⟩ = some b ∧ w.frozen? ⟨g, 0, none⟩ = false ∧ w.frozen? ⟨g, 1, none⟩ = false :=
  ⟨h.cell 0, h.cell 1, h.frozen 0, h.frozen 1⟩
theorem Blk.four (h : Blk w g t #[a, b, c, d]) : w.cell? ⟨g, 0, none⟩ = some a ∧ w.cell? ⟨g, 1, none⟩ = some b ∧ w.cell? ⟨g, 2, none⟩ = some c ∧ w.cell? ⟨g, 3, none⟩ = some d ∧
    w.frozen? ⟨g, 0, none⟩ = false ∧ w.frozen? ⟨g, 1, none⟩ = false ∧ w.frozen? ⟨g, 2, none⟩ = false ∧ w.frozen? ⟨g, 3, none⟩ = false :=
  ⟨h.cell 0, h.cell 1, h.cell 2, h.cell 3, h.frozen 0, h.frozen 1, h.frozen 2, h.frozen 3⟩
theorem Blk.set2 (h : Blk w g t #[a, b]) (a' b' : Value) : Blk ((w.setCell ⟨g, 0, none⟩ a').setCell ⟨g, 1, none⟩ b') g t #[a', b'] := (h.set 0 a').set 1 b'
theorem Blk.set4 (h : Blk w g t #[a, b, c, d]) (a' b' c' d' : Value) : Blk ((((w.setCell ⟨g, 0, none⟩ a').setCell ⟨g, 1, none⟩ b').setCell ⟨g, 2, none⟩ c').setCell ⟨g, 3, none⟩ d') g t #[a', b', c', d'] :=
  (((h.set 0 a').set 1 b').set 2 c').set 3 d'
end
theorem Wat.setFar {w : World} {A : Option Addr} {n : Nat} {l : List Nat} {base : Nat} (h : Wat w A n l) (hf : Fresh base w A n) {p : Addr} (hp : p.block < base) (v : Value) : Wat (w.setCell p v) A n l := by
  refine ⟨h.1, h.2.1, fun hn => ?_⟩
  obtain ⟨b, o, rfl, hb, hc⟩ := h.2.2 hn
  obtain ⟨b', o', he, hlt, _⟩ := hf hn
  cases he
  refine ⟨b, o, rfl, by simpa [World.setCell] using hb, fun j hj => ?_⟩
  rw [World.cell?_setCell_other _ _ _ _ (fun e => by subst e; simp at hp; omega)]
  exact hc j hj
theorem Fresh.set {w : World} {A : Option Addr} {n : Nat} {base : Nat} (hf : Fresh base w A n) (p : Addr) (v : Value) : Fresh base (w.setCell p v) A n := by
  intro hn
  obtain ⟨b, o, rfl, hb, hc⟩ := hf hn
  exact ⟨b, o, rfl, hb, fun j hj => by rw [World.frozen?_setCell]; exact hc j hj⟩
theorem store2_far {w : World} {g : Nat} (a b : Value) {A : Option Addr} {n : Nat} {l : List Nat} (h : Wat w A n l) (hf : Fresh (g + 1) w A n) :
    Wat ((w.setCell ⟨g, 0, none⟩ a).setCell ⟨g, 1, none⟩ b) A n l ∧ Fresh g ((w.setCell ⟨g, 0, none⟩ a).setCell ⟨g, 1, none⟩ b) A n :=
  ⟨(h.setFar hf (p := ⟨g, 0, none⟩) (Nat.lt_succ_self g) a).setFar (hf.set _ a) (p := ⟨g, 1, none⟩) (Nat.lt_succ_self g) b, ((hf.set _ a).set _ b).mono (by omega)⟩
theorem below_set2 {w0 w : World} {B g : Nat} (h : Below B w0 w) (hg : B ≤ g) (a b : Value) : Below B w0 ((w.setCell ⟨g, 0, none⟩ a).setCell ⟨g, 1, none⟩ b) :=
  (h.setCell (p := ⟨g, 0, none⟩) hg a).setCell (p := ⟨g, 1, none⟩) hg b
theorem store4_far {w : World} {g : Nat} (a b c d : Value) {A : Option Addr} {n : Nat} {l : List Nat} (h : Wat w A n l) (hf : Fresh (g + 1) w A n) :
    Wat ((((w.setCell ⟨g, 0, none⟩ a).setCell ⟨g, 1, none⟩ b).setCell ⟨g, 2, none⟩ c).setCell ⟨g, 3, none⟩ d) A n l ∧ Fresh g ((((w.setCell ⟨g, 0, none⟩ a).setCell ⟨g, 1, none⟩ b).setCell ⟨g, 2, none⟩ c).setCell ⟨g, 3, none⟩ d) A n :=
  ⟨(((h.setFar hf (p := ⟨g, 0, none⟩) (Nat.lt_succ_self g) a).setFar (hf.set _ a) (p := ⟨g, 1, none⟩) (Nat.lt_succ_self g) b).setFar ((hf.set _ a).set _ b) (p := ⟨g, 2, none⟩) (Nat.lt_succ_self g) c).setFar (((hf.set _ a).set _ b).set _ c) (p := ⟨g, 3, none⟩) (Nat.lt_succ_self g) d,
   ((((hf.set _ a).set _ b).set _ c).set _ d).mono (by omega)⟩
theorem below_set4 {w0 w : World} {B g : Nat} (h : Below B w0 w) (hg : B ≤ g) (a b c d : Value) : Below B w0 ((((w.setCell ⟨g, 0, none⟩ a).setCell ⟨g, 1, none⟩ b).setCell ⟨g, 2, none⟩ c).setCell ⟨g, 3, none⟩ d) :=
  (((h.setCell (p := ⟨g, 0, none⟩) hg a).setCell (p := ⟨g, 1, none⟩) hg b).setCell (p := ⟨g, 2, none⟩) hg c).setCell (p := ⟨g, 3, none⟩) hg d
/-- A new block, then a call: what was there before the block is as it was. -/
theorem below_of_alloc {w w1 : World} {o : Obj} (h : Below (w.alloc o).heap.size (w.alloc o) w1) : Below w.heap.size w w1 :=
  ((Below.refl _ w).alloc (Nat.le_refl _) o).trans (h.mono (by simp))
theorem below_of_alloc2 {w w1 : World} {o o' : Obj} (h : Below ((w.alloc o).alloc o').heap.size ((w.alloc o).alloc o') w1) : Below w.heap.size w w1 :=
  below_of_alloc (below_of_alloc h)
theorem below_of_alloc3 {w w1 : World} {o o' o'' : Obj} (h : Below (((w.alloc o).alloc o').alloc o'').heap.size (((w.alloc o).alloc o').alloc o'') w1) : Below w.heap.size w w1 :=
  below_of_alloc (below_of_alloc2 h)

theorem belowN (w : World) (n : Nat) : Below w.heap.size w (w.drewN n) := ⟨rfl, rfl, rfl, Nat.le_refl _, fun _ _ => rfl⟩
theorem below_drewN {B : Nat} {a w : World} (h : Below B a w) (n : Nat) : Below B a (w.drewN n) := ⟨h.os, h.tape, h.output, h.size, h.block⟩
/-- Since the world W nothing that was there has turned. -/
def Kp (W w' : World) : Prop := Below W.heap.size W w'
theorem Kp.refl (W : World) : Kp W W := Below.refl _ _
theorem Kp.drew {W w' : World} (h : Kp W w') : Kp W w'.drew := Below.drew h
theorem Kp.trans {W w1 w2 : World} (h : Kp W w1) (hb : Below w1.heap.size w1 w2) : Kp W w2 := Below.trans h (hb.mono (Below.size h))
theorem Kp.blk {W w' : World} {g : Nat} {t : TypeId} {cs : Array Value} (h : Kp W w') (hg : Blk W g t cs) : Blk w' g t cs := hg.below h hg.lt

/-- Below block g all is as in W, and block g is still a box of two cells (of four cells) of type t: what a statement keeps that ends in a store of its struct result. -/
def RS (g : Nat) (t : TypeId) (W w' : World) : Prop := Below g W w' ∧ ∃ x y, Blk w' g t #[x, y]
theorem RS.start {g : Nat} {t : TypeId} {W : World} {x y : Value} (h : Blk W g t #[x, y]) : RS g t W W := ⟨Below.refl _ _, x, y, h⟩
theorem RS.drew {g : Nat} {t : TypeId} {W w : World} (h : RS g t W w) : RS g t W w.drew := ⟨h.1.drew, h.2⟩
theorem RS.drewN {g : Nat} {t : TypeId} {W w : World} (h : RS g t W w) (n : Nat) : RS g t W (w.drewN n) := ⟨below_drewN h.1 n, h.2⟩
theorem RS.call {g : Nat} {t : TypeId} {W w w' : World} (h : RS g t W w) (hb : Below w.heap.size w w') : RS g t W w' := by
  obtain ⟨h1, x, y, h2⟩ := h
  exact ⟨h1.trans (hb.mono (Nat.le_of_lt h2.lt)), x, y, h2.below hb h2.lt⟩
theorem RS.set {g : Nat} {t : TypeId} {W w : World} (h : RS g t W w) (a b : Value) : RS g t W ((w.setCell ⟨g, 0, none⟩ a).setCell ⟨g, 1, none⟩ b) := by
  obtain ⟨h1, x, y, h2⟩ := h
  exact ⟨below_set2 h1 (Nat.le_refl _) a b, a, b, h2.set2 a b⟩
theorem RS.blk {g g' : Nat} {t t' : TypeId} {W w : World} {cs : Array Value} (h : RS g t W w) (hg : Blk W g' t' cs) (hlt : g' < g) : Blk w g' t' cs := hg.below h.1 hlt
theorem RS.two {g : Nat} {t : TypeId} {W w : World} (h : RS g t W w) : ∃ x y, w.cell? ⟨g, 0, none⟩ = some x ∧ w.cell? ⟨g, 1, none⟩ = some y ∧ w.frozen? ⟨g, 0, none⟩ = false ∧ w.frozen? ⟨g, 1, none⟩ = false := by
  obtain ⟨_, x, y, h2⟩ := h
  exact ⟨x, y, h2.two⟩
theorem RS.done {g : Nat} {t : TypeId} {W w : World} (h : RS g t W w) (a b : Value) : Blk ((w.setCell ⟨g, 0, none⟩ a).setCell ⟨g, 1, none⟩ b) g t #[a, b] := by
  obtain ⟨_, x, y, h2⟩ := h
  exact h2.set2 a b
def RS4 (g : Nat) (t : TypeId) (W w' : World) : Prop := Below g W w' ∧ ∃ x y z u, Blk w' g t #[x, y, z, u]
theorem RS4.start {g : Nat} {t : TypeId} {W : World} {x y z u : Value} (h : Blk W g t #[x, y, z, u]) : RS4 g t W W := ⟨Below.refl _ _, x, y, z, u, h⟩
theorem RS4.drew {g : Nat} {t : TypeId} {W w : World} (h : RS4 g t W w) : RS4 g t W w.drew := ⟨h.1.drew, h.2⟩
theorem RS4.call {g : Nat} {t : TypeId} {W w w' : World} (h : RS4 g t W w) (hb : Below w.heap.size w w') : RS4 g t W w' := by
  obtain ⟨h1, x, y, z, u, h2⟩ := h
  exact ⟨h1.trans (hb.mono (Nat.le_of_lt h2.lt)), x, y, z, u, h2.below hb h2.lt⟩
theorem RS4.set {g : Nat} {t : TypeId} {W w : World} (h : RS4 g t W w) (a b c d : Value) : RS4 g t W ((((w.setCell ⟨g, 0, none⟩ a).setCell ⟨g, 1, none⟩ b).setCell ⟨g, 2, none⟩ c).setCell ⟨g, 3, none⟩ d) := by
  obtain ⟨h1, x, y, z, u, h2⟩ := h
  exact ⟨below_set4 h1 (Nat.le_refl _) a b c d, a, b, c, d, h2.set4 a b c d⟩
theorem RS4.blk {g g' : Nat} {t t' : TypeId} {W w : World} {cs : Array Value} (h : RS4 g t W w) (hg : Blk W g' t' cs) (hlt : g' < g) : Blk w g' t' cs := hg.below h.1 hlt
theorem RS4.four {g : Nat} {t : TypeId} {W w : World} (h : RS4 g t W w) : ∃ x y z u, w.cell? ⟨g, 0, none⟩ = some x ∧ w.cell? ⟨g, 1, none⟩ = some y ∧ w.cell? ⟨g, 2, none⟩ = some z ∧ w.cell? ⟨g, 3, none⟩ = some u ∧
    w.frozen? ⟨g, 0, none⟩ = false ∧ w.frozen? ⟨g, 1, none⟩ = false ∧ w.frozen? ⟨g, 2, none⟩ = false ∧ w.frozen? ⟨g, 3, none⟩ = false := by
  obtain ⟨_, x, y, z, u, h2⟩ := h
  exact ⟨x, y, z, u, h2.four⟩
theorem RS4.done {g : Nat} {t : TypeId} {W w : World} (h : RS4 g t W w) (a b c d : Value) : Blk ((((w.setCell ⟨g, 0, none⟩ a).setCell ⟨g, 1, none⟩ b).setCell ⟨g, 2, none⟩ c).setCell ⟨g, 3, none⟩ d) g t #[a, b, c, d] := by
  obtain ⟨_, x, y, z, u, h2⟩ := h
  exact h2.set4 a b c d

/-- The integer that a sign and words stand for. -/
def sg (neg : Bool) (n : Nat) : Int := if neg then -(n : Int) else (n : Int)
theorem sg_natAbs (neg : Bool) (n : Nat) : (sg neg n).natAbs = n := by unfold sg; cases neg <;> simp
theorem sg_zero (neg : Bool) : sg neg 0 = 0 := by unfold sg; cases neg <;> rfl
theorem sg_neg {neg : Bool} {n : Nat} (h : n ≠ 0) : decide (sg neg n < 0) = neg := by unfold sg; cases neg <;> simp <;> omega
theorem sg_self (z : Int) : sg (decide (z < 0)) z.natAbs = z := by
  unfold sg
  by_cases h : z < 0
  · simp [h]; omega
  · simp [h]; omega

/-- The call returns the canonical integer z in new memory; nothing that was there has turned. -/
def RetZ (w : World) (z : Int) (e : Ending) (w' : World) : Prop :=
  ∃ A k c, e = .returned (.agg #[.bool (decide (z < 0)), .slice A k c]) ∧ k ≤ c ∧ Wat w' A k (digs z.natAbs) ∧ Fresh w.heap.size w' A k ∧ Below w.heap.size w w'


/-- The end of a call that stores its integer result in box g. -/
theorem retZ_close {w W w2 : World} {g base : Nat} {t : TypeId} {A : Option Addr} {k c : Nat} {z : Int} (hBW : Below w.heap.size w W) (hg : w.heap.size ≤ g) (hb : g < base) (hr : RS g t W w2) (hk : k ≤ c)
    (hW : Wat w2 A k (digs z.natAbs)) (hF : Fresh base w2 A k) :
    RetZ w z (.returned (.agg #[.bool (decide (z < 0)), .slice A k c])) ((w2.setCell ⟨g, 0, none⟩ (.bool (decide (z < 0)))).setCell ⟨g, 1, none⟩ (.slice A k c)) := by
  obtain ⟨h1, h2⟩ := store2_far (g := g) (.bool (decide (z < 0))) (.slice A k c) hW (hF.mono hb)
  exact ⟨A, k, c, rfl, hk, h1, h2.mono hg, below_set2 (hBW.trans (hr.1.mono hg)) hg _ _⟩

end Go.Proofs.YtdoeejcmaeefcaaGreat

namespace Go.Proofs.YtdoeejcmaeefcaaGreat
set_option linter.unusedVariables false
set_option linter.unusedSimpArgs false
namespace En

/-- The cost of t on a curve. -/
def cst : List (Int × Int) → Int → Int
  | [], _ => 0
  | s :: r, t => min t s.1 * s.2 + cst r (t - min t s.1)
def qs : List (Int × Int) → Int
  | [] => 0
  | s :: r => s.1 + qs r
/-- What the steps at prices up to v hold. -/
def qle (v : Int) : List (Int × Int) → Int
  | [] => 0
  | s :: r => (if s.2 ≤ v then s.1 else 0) + qle v r
/-- Quantities are not negative, prices rise. -/
def Up : List (Int × Int) → Prop
  | [] => True
  | s :: r => 0 ≤ s.1 ∧ (∀ t ∈ r, s.2 < t.2) ∧ Up r

theorem qle_zero {v : Int} : ∀ {st : List (Int × Int)}, (∀ t ∈ st, v < t.2) → qle v st = 0
  | [], _ => rfl
  | s :: r, h => by
    have h1 := h s (List.mem_cons_self ..)
    rw [qle, if_neg (by omega), qle_zero fun t ht => h t (List.mem_cons_of_mem _ ht)]
    rfl
theorem qle_bd {v : Int} : ∀ {st : List (Int × Int)}, Up st → 0 ≤ qle v st ∧ qle v st ≤ qs st
  | [], _ => by simp [qle, qs]
  | s :: r, h => by
    obtain ⟨h1, _, h2⟩ := h
    have ih := qle_bd (v := v) h2
    rw [qle, qs]
    split <;> omega
theorem qle_mono {v u : Int} (hvu : v ≤ u) : ∀ {st : List (Int × Int)}, Up st → qle v st ≤ qle u st
  | [], _ => by simp [qle]
  | s :: r, h => by
    obtain ⟨h1, _, h2⟩ := h
    have ih := qle_mono hvu h2
    rw [qle, qle]
    by_cases h3 : s.2 ≤ v
    · rw [if_pos h3, if_pos (by omega)]; omega
    · rw [if_neg h3]; split <;> omega

theorem ar_slow {A B p v c1 c2 a b : Int} (m : (A - B) * p ≤ (A - B) * v) (ih : c2 - c1 ≤ v * ((b - A) - (a - B))) : A * p + c2 - (B * p + c1) ≤ v * (b - a) := by
  grind
theorem ar_fast {A B p v c1 c2 a b : Int} (m : (A - B) * v ≤ (A - B) * p) (ih : v * ((b - A) - (a - B)) ≤ c2 - c1) : v * (b - a) ≤ A * p + c2 - (B * p + c1) := by
  grind

theorem cst_slow {v : Int} : ∀ (st : List (Int × Int)) (a b : Int), Up st → 0 ≤ a → a ≤ b → b ≤ qle v st → cst st b - cst st a ≤ v * (b - a)
  | [], a, b, _, h0, h1, h2 => by
    simp only [qle] at h2
    have e1 : b = 0 := by omega
    have e2 : a = 0 := by omega
    subst e1 e2
    simp [cst]
  | s :: r, a, b, hu, h0, h1, h2 => by
    obtain ⟨hq, hr, hu'⟩ := hu
    rw [cst, cst]
    by_cases hp : s.2 ≤ v
    · rw [qle, if_pos hp] at h2
      have hz := (qle_bd (v := v) hu').1
      have ih := cst_slow (v := v) r (a - min a s.1) (b - min b s.1) hu' (by omega) (by omega) (by omega)
      have m := Int.mul_le_mul_of_nonneg_left hp (show 0 ≤ min b s.1 - min a s.1 by omega)
      exact ar_slow m ih
    · have hz : qle v (s :: r) = 0 := qle_zero fun t ht => by
        rcases List.mem_cons.1 ht with rfl | ht
        · omega
        · have := hr t ht; omega
      rw [hz] at h2
      have e1 : b = 0 := by omega
      have e2 : a = 0 := by omega
      subst e1 e2
      simp

theorem cst_fast {v : Int} : ∀ (st : List (Int × Int)) (a b : Int), Up st → qle (v - 1) st ≤ a → a ≤ b → b ≤ qs st → v * (b - a) ≤ cst st b - cst st a
  | [], a, b, _, h0, h1, h2 => by
    simp only [qle, qs] at h0 h2
    have e1 : b = 0 := by omega
    have e2 : a = 0 := by omega
    subst e1 e2
    simp [cst]
  | s :: r, a, b, hu, h0, h1, h2 => by
    obtain ⟨hq, hr, hu'⟩ := hu
    rw [cst, cst]
    rw [qs] at h2
    by_cases hp : s.2 ≤ v - 1
    · rw [qle, if_pos hp] at h0
      have hz := (qle_bd (v := v - 1) hu').1
      have ih := cst_fast (v := v) r (a - min a s.1) (b - min b s.1) hu' (by omega) (by omega) (by omega)
      have m : (min b s.1 - min a s.1) * v ≤ (min b s.1 - min a s.1) * s.2 := by
        have e : min b s.1 - min a s.1 = 0 := by omega
        rw [e]; simp
      exact ar_fast m ih
    · have hz : qle (v - 1) r = 0 := qle_zero fun t ht => by have := hr t ht; omega
      have hb0 : 0 ≤ a := by
        have := (qle_bd (v := v - 1) (st := s :: r) ⟨hq, hr, hu'⟩).1
        omega
      have ih := cst_fast (v := v) r (a - min a s.1) (b - min b s.1) hu' (by omega) (by omega) (by have := (qle_bd (v := v) hu'); omega)
      have m := Int.mul_le_mul_of_nonneg_left (show v ≤ s.2 by omega) (show 0 ≤ min b s.1 - min a s.1 by omega)
      exact ar_fast m ih

/-- What of a unit bears on an allocation. -/
structure PU where
  on : Bool
  mn : Int
  st : List (Int × Int)
def PU.dn (z : PU) : Int := if z.on then z.mn else 0
def PU.up (z : PU) : Int := if z.on then qs z.st else 0
def PU.lo (z : PU) (v : Int) : Int := if z.on then max z.mn (qle (v - 1) z.st) else 0
def PU.hi (z : PU) (v : Int) : Int := if z.on then max z.mn (qle v z.st) else 0
def PU.Ok (z : PU) : Prop := Up z.st ∧ 0 ≤ z.mn ∧ z.mn ≤ qs z.st

theorem PU.box {z : PU} (h : z.Ok) (v : Int) : z.dn ≤ z.lo v ∧ z.lo v ≤ z.hi v ∧ z.hi v ≤ z.up := by
  obtain ⟨h1, h2, h3⟩ := h
  have b1 := qle_bd (v := v) h1
  have b2 := qle_mono (v := v - 1) (u := v) (by omega) h1
  unfold PU.dn PU.lo PU.hi PU.up
  cases z.on
  · simp
  · simp only [if_true]; omega

theorem PU.least {z : PU} (h : z.Ok) {v x t : Int} (h1 : z.lo v ≤ x) (h2 : x ≤ z.hi v) (h3 : z.dn ≤ t) (h4 : t ≤ z.up) :
    cst z.st x - v * x ≤ cst z.st t - v * t ∧ (cst z.st t - v * t ≤ cst z.st x - v * x → z.lo v ≤ t ∧ t ≤ z.hi v) := by
  obtain ⟨u1, u2, u3⟩ := h
  have b0 := qle_bd (v := v - 1) u1
  have b1 := qle_bd (v := v) u1
  have b2 := qle_mono (v := v - 1) (u := v) (by omega) u1
  unfold PU.lo PU.hi PU.dn PU.up at *
  cases hon : z.on
  · rw [hon] at h1 h2 h3 h4
    simp only [Bool.false_eq_true, if_false] at *
    have e1 : x = 0 := by omega
    have e2 : t = 0 := by omega
    subst e1 e2
    exact ⟨Int.le_refl _, fun _ => ⟨Int.le_refl _, Int.le_refl _⟩⟩
  · rw [hon] at h1 h2 h3 h4
    simp only [if_true] at *
    have main : cst z.st x - v * x ≤ cst z.st t - v * t := by
      by_cases htx : t ≤ x
      · by_cases hxq : x ≤ qle v z.st
        · have := cst_slow z.st t x u1 (by omega) htx hxq
          grind
        · have e : t = x := by omega
          subst e
          exact Int.le_refl _
      · have := cst_fast (v := v) z.st x t u1 (by omega) (by omega) (by omega)
        grind
    refine ⟨main, fun hle => ⟨?_, ?_⟩⟩
    · rcases Int.lt_or_le t (max z.mn (qle (v - 1) z.st)) with hlt | hge
      · exfalso
        have s1 := cst_slow (v := v - 1) z.st t (qle (v - 1) z.st) u1 (by omega) (by omega) (Int.le_refl _)
        have s2 := cst_slow (v := v) z.st (qle (v - 1) z.st) x u1 (by omega) (by omega) (by omega)
        have s3 : 0 < qle (v - 1) z.st - t := by omega
        grind
      · exact hge
    · rcases Int.lt_or_le (max z.mn (qle v z.st)) t with hlt | hge
      · exfalso
        have s1 := cst_fast (v := v + 1) z.st (max z.mn (qle v z.st)) t u1 (by rw [Int.add_sub_cancel]; omega) (by omega) (by omega)
        have s2 := cst_fast (v := v) z.st x (max z.mn (qle v z.st)) u1 (by omega) (by omega) (by omega)
        have s3 : 0 < t - max z.mn (qle v z.st) := by omega
        grind
      · exact hge

def sumR : List Int → Int
  | [] => 0
  | x :: r => x + sumR r
def costR : List PU → List Int → Int
  | z :: zs, x :: xs => cst z.st x + costR zs xs
  | _, _ => 0
def FeasR : List PU → List Int → Prop
  | [], [] => True
  | z :: zs, x :: xs => z.dn ≤ x ∧ x ≤ z.up ∧ FeasR zs xs
  | _, _ => False
def Box (v : Int) : List PU → List Int → Prop
  | [], [] => True
  | z :: zs, x :: xs => z.lo v ≤ x ∧ x ≤ z.hi v ∧ Box v zs xs
  | _, _ => False
def AllOk : List PU → Prop
  | [] => True
  | z :: zs => z.Ok ∧ AllOk zs
def lexLe : List Int → List Int → Prop
  | [], [] => True
  | x :: xs, y :: ys => x < y ∨ (x = y ∧ lexLe xs ys)
  | _, _ => False
/-- Units before u stand at their least, units after u at their greatest of price v. -/
def Thr (v : Int) (u : Nat) : Nat → List PU → List Int → Prop
  | _, [], [] => True
  | k, z :: zs, x :: xs => (z.lo v ≤ x ∧ x ≤ z.hi v) ∧ (k < u → x = z.lo v) ∧ (u < k → x = z.hi v) ∧ Thr v u (k + 1) zs xs
  | _, _, _ => False

theorem Thr.box {v : Int} {u : Nat} : ∀ {zs : List PU} {xs : List Int} {k : Nat}, Thr v u k zs xs → Box v zs xs
  | [], [], _, _ => trivial
  | _ :: _, _ :: _, _, h => ⟨h.1.1, h.1.2, Thr.box h.2.2.2⟩
  | [], _ :: _, _, h => h.elim
  | _ :: _, [], _, h => h.elim
theorem Box.feas {v : Int} : ∀ {zs : List PU} {xs : List Int}, AllOk zs → Box v zs xs → FeasR zs xs
  | [], [], _, _ => trivial
  | z :: _, _ :: _, ho, h => by
    have hb := PU.box ho.1 v
    obtain ⟨h1, h2, h3⟩ := h
    exact ⟨by omega, by omega, Box.feas ho.2 h3⟩
  | [], _ :: _, _, h => h.elim
  | _ :: _, [], _, h => h.elim

theorem box_least {v : Int} : ∀ {zs : List PU} {xs ys : List Int}, AllOk zs → Box v zs xs → FeasR zs ys → costR zs xs - v * sumR xs ≤ costR zs ys - v * sumR ys ∧ (costR zs ys - v * sumR ys ≤ costR zs xs - v * sumR xs → Box v zs ys)
  | [], [], [], _, _, _ => ⟨Int.le_refl _, fun _ => trivial⟩
  | z :: zs, x :: xs, y :: ys, ho, hb, hf => by
    obtain ⟨b1, b2, b3⟩ := hb
    obtain ⟨f1, f2, f3⟩ := hf
    obtain ⟨p1, p2⟩ := PU.least ho.1 b1 b2 f1 f2
    obtain ⟨q1, q2⟩ := box_least ho.2 b3 f3
    rw [costR, costR, sumR, sumR]
    refine ⟨by grind, fun hle => ?_⟩
    obtain ⟨r1, r2⟩ := p2 (by grind)
    exact ⟨r1, r2, q2 (by grind)⟩
  | [], _ :: _, _, _, h, _ => h.elim
  | _ :: _, [], _, _, h, _ => h.elim
  | [], [], _ :: _, _, _, h => h.elim
  | _ :: _, _ :: _, [], _, _, h => h.elim

theorem high_sum {v : Int} {u : Nat} : ∀ {zs : List PU} {xs ys : List Int} {k : Nat}, u < k → Thr v u k zs xs → Box v zs ys → sumR ys ≤ sumR xs
  | [], [], [], _, _, _, _ => Int.le_refl _
  | z :: zs, x :: xs, y :: ys, k, hk, ht, hb => by
    obtain ⟨_, _, t3, t4⟩ := ht
    obtain ⟨b1, b2, b3⟩ := hb
    have ih := high_sum (k := k + 1) (by omega) t4 b3
    have := t3 hk
    rw [sumR, sumR]
    omega
  | [], _ :: _, _, _, _, h, _ => h.elim
  | _ :: _, [], _, _, _, h, _ => h.elim
  | [], [], _ :: _, _, _, _, h => h.elim
  | _ :: _, _ :: _, [], _, _, _, h => h.elim

theorem lex_least {v : Int} {u : Nat} : ∀ {zs : List PU} {xs ys : List Int} {k : Nat}, Thr v u k zs xs → Box v zs ys → sumR xs = sumR ys → lexLe xs ys
  | [], [], [], _, _, _, _ => trivial
  | z :: zs, x :: xs, y :: ys, k, ht, hb, hs => by
    obtain ⟨t1, t2, t3, t4⟩ := ht
    obtain ⟨b1, b2, b3⟩ := hb
    rw [sumR, sumR] at hs
    rcases Nat.lt_trichotomy k u with hk | hk | hk
    · have := t2 hk
      rcases Int.lt_or_le x y with hlt | hge
      · exact Or.inl hlt
      · exact Or.inr ⟨by omega, lex_least t4 b3 (by omega)⟩
    · have := high_sum (k := k + 1) (by omega) t4 b3
      rcases Int.lt_or_le x y with hlt | hge
      · exact Or.inl hlt
      · exact Or.inr ⟨by omega, lex_least t4 b3 (by omega)⟩
    · have h1 := high_sum (k := k + 1) (by omega) t4 b3
      have h2 := t3 hk
      exact Or.inr ⟨by omega, lex_least t4 b3 (by omega)⟩
  | [], _ :: _, _, _, h, _, _ => h.elim
  | _ :: _, [], _, _, h, _, _ => h.elim
  | [], [], _ :: _, _, _, h, _ => h.elim
  | _ :: _, _ :: _, [], _, _, h, _ => h.elim

/-- The row xs is the optimal allocation of f. -/
def Opt (zs : List PU) (f : Int) (xs : List Int) : Prop := sumR xs = f ∧ ((∃ v u, Thr v u 0 zs xs))

theorem Opt.feas {zs : List PU} {f : Int} {xs : List Int} (ho : AllOk zs) (h : Opt zs f xs) : FeasR zs xs := by
  obtain ⟨_, v, u, ht⟩ := h
  exact Box.feas ho ht.box
theorem Opt.least {zs : List PU} {f : Int} {xs ys : List Int} (ho : AllOk zs) (h : Opt zs f xs) (hf : FeasR zs ys) (hs : sumR ys = f) : costR zs xs ≤ costR zs ys ∧ (costR zs ys ≤ costR zs xs → lexLe xs ys) := by
  obtain ⟨h1, v, u, ht⟩ := h
  obtain ⟨p1, p2⟩ := box_least ho ht.box hf
  rw [h1, hs] at p1 p2
  refine ⟨by omega, fun hle => lex_least ht (p2 (by omega)) (by omega)⟩
theorem lex_anti : ∀ {xs ys : List Int}, lexLe xs ys → lexLe ys xs → xs = ys
  | [], [], _, _ => rfl
  | x :: xs, y :: ys, h1, h2 => by
    rcases h1 with h1 | ⟨h1, h1'⟩
    · rcases h2 with h2 | ⟨h2, h2'⟩ <;> omega
    · rcases h2 with h2 | ⟨h2, h2'⟩
      · omega
      · rw [h1, lex_anti h1' h2']
  | [], _ :: _, h, _ => h.elim
  | _ :: _, [], h, _ => h.elim
theorem Opt.only {zs : List PU} {f : Int} {xs ys : List Int} (ho : AllOk zs) (h : Opt zs f xs) (h' : Opt zs f ys) : xs = ys := by
  obtain ⟨a1, a2⟩ := h.least ho (h'.feas ho) h'.1
  obtain ⟨b1, b2⟩ := h'.least ho (h.feas ho) h.1
  exact lex_anti (a2 b1) (b2 a1)
/-- Each further unit costs no less than the one before. -/
theorem Opt.convex {zs : List PU} {f : Int} {xs ys rs : List Int} (ho : AllOk zs) (hx : Opt zs f xs) (hy : Opt zs (f + 1) ys) (hr : Opt zs (f + 2) rs) : costR zs ys - costR zs xs ≤ costR zs rs - costR zs ys := by
  obtain ⟨h1, v, u, ht⟩ := hy
  have p := (box_least ho ht.box (hx.feas ho)).1
  have q := (box_least ho ht.box (hr.feas ho)).1
  rw [h1, hx.1] at p
  rw [h1, hr.1] at q
  have e1 : v * (f + 1) = v * f + v := by grind
  have e2 : v * (f + 2) = v * f + v + v := by grind
  rw [e1] at p q
  rw [e2] at q
  omega

end En
end Go.Proofs.YtdoeejcmaeefcaaGreat

namespace Go.Proofs.YtdoeejcmaeefcaaGreat
set_option linter.unusedVariables false
set_option linter.unusedSimpArgs false
namespace En

abbrev Pc := Nat × Int × Int
/-- What is left of a curve above used. -/
def left : Int → List (Int × Int) → List (Int × Int)
  | _, [] => []
  | t, s :: r => (s.1 - min t s.1, s.2) :: left (t - min t s.1) r
def pieces : Nat → List PU → List Pc
  | _, [] => []
  | k, z :: zs => (if z.on then (left z.mn z.st).map (fun s => (k, s.1, s.2)) else []) ++ pieces (k + 1) zs
def fill : List Pc → Int → List Int → List Int
  | [], _, x => x
  | p :: ps, r, x => fill ps (r - min r p.2.1) (x.set p.1 (x[p.1]?.getD 0 + min r p.2.1))
def ltP (a b : Pc) : Bool := if a.2.2 ≠ b.2.2 then decide (a.2.2 < b.2.2) else decide (b.1 < a.1)
def tot (c : Pc → Bool) : List Pc → Int
  | [] => 0
  | p :: ps => (if c p then p.2.1 else 0) + tot c ps

theorem tot_app (c : Pc → Bool) : ∀ (ps rs : List Pc), tot c (ps ++ rs) = tot c ps + tot c rs
  | [], rs => by simp [tot]
  | p :: ps, rs => by rw [List.cons_append, tot, tot, tot_app c ps rs]; omega
theorem tot_perm {c : Pc → Bool} {ps rs : List Pc} (h : ps.Perm rs) : tot c ps = tot c rs := by
  induction h with
  | nil => rfl
  | cons x _ ih => rw [tot, tot, ih]
  | swap x y l => rw [tot, tot, tot, tot]; omega
  | trans _ _ h1 h2 => rw [h1, h2]
theorem tot_congr {c d : Pc → Bool} : ∀ {ps : List Pc}, (∀ p ∈ ps, c p = d p) → tot c ps = tot d ps
  | [], _ => rfl
  | p :: ps, h => by rw [tot, tot, h p (List.mem_cons_self ..), tot_congr fun q hq => h q (List.mem_cons_of_mem _ hq)]
theorem tot_none {c : Pc → Bool} : ∀ {ps : List Pc}, (∀ p ∈ ps, c p = false) → tot c ps = 0
  | [], _ => rfl
  | p :: ps, h => by rw [tot, h p (List.mem_cons_self ..), tot_none fun q hq => h q (List.mem_cons_of_mem _ hq)]; rfl
theorem tot_le {c d : Pc → Bool} : ∀ {ps : List Pc}, (∀ p ∈ ps, 0 ≤ p.2.1) → (∀ p ∈ ps, c p = true → d p = true) → tot c ps ≤ tot d ps
  | [], _, _ => Int.le_refl _
  | p :: ps, h0, h => by
    have ih := tot_le (fun q hq => h0 q (List.mem_cons_of_mem _ hq)) (fun q hq => h q (List.mem_cons_of_mem _ hq))
    have h1 := h0 p (List.mem_cons_self ..)
    have h2 := h p (List.mem_cons_self ..)
    rw [tot, tot]
    cases hc : c p
    · simp only [Bool.false_eq_true, if_false]; split <;> omega
    · rw [h2 hc]; simp only [if_true]; omega
theorem tot_nonneg {c : Pc → Bool} {ps : List Pc} (h : ∀ p ∈ ps, 0 ≤ p.2.1) : 0 ≤ tot c ps := by
  have := tot_le (c := fun _ => false) (d := c) h (fun _ _ h => by cases h)
  rwa [tot_none (fun _ _ => rfl)] at this

theorem fill_zero : ∀ (ps : List Pc) (x : List Int), (∀ p ∈ ps, 0 ≤ p.2.1) → fill ps 0 x = x
  | [], _, _ => rfl
  | p :: ps, x, h => by
    have h1 := h p (List.mem_cons_self ..)
    have e : min 0 p.2.1 = 0 := by omega
    rw [fill, e, Int.add_zero, Int.sub_zero]
    have e2 : x.set p.1 (x[p.1]?.getD 0) = x := by
      by_cases hl : p.1 < x.length
      · rw [List.getElem?_eq_getElem hl]; simp
      · exact List.set_eq_of_length_le (by omega)
    rw [e2]
    exact fill_zero ps x fun q hq => h q (List.mem_cons_of_mem _ hq)
theorem set_get (x : List Int) (i j : Nat) (v : Int) (hi : i < x.length) : (x.set i v)[j]?.getD 0 = if i = j then v else x[j]?.getD 0 := by
  rw [List.getElem?_set]
  by_cases h : i = j
  · subst h; simp [hi]
  · simp [h]
theorem sum_set : ∀ (x : List Int) (i : Nat) (a : Int), i < x.length → sumR (x.set i (x[i]?.getD 0 + a)) = sumR x + a
  | [], _, _, h => absurd h (by simp)
  | y :: x, 0, a, _ => by simp [sumR]; omega
  | y :: x, i + 1, a, h => by
    have ih := sum_set x i a (by simpa using h)
    simp only [List.set_cons_succ, List.getElem?_cons_succ, sumR]
    omega
theorem fill_len : ∀ (ps : List Pc) (r : Int) (x : List Int), (fill ps r x).length = x.length
  | [], _, _ => rfl
  | p :: ps, r, x => by rw [fill, fill_len]; simp
theorem fill_split : ∀ (ps : List Pc) (r : Int) (x : List Int), (∀ p ∈ ps, 0 ≤ p.2.1) → (∀ p ∈ ps, p.1 < x.length) → 0 ≤ r → r ≤ tot (fun _ => true) ps → ps ≠ [] →
    ∃ pre m post a, ps = pre ++ m :: post ∧ 0 ≤ a ∧ a ≤ m.2.1 ∧ sumR (fill ps r x) = sumR x + r ∧ ∀ i, (fill ps r x)[i]?.getD 0 = x[i]?.getD 0 + tot (fun p => decide (p.1 = i)) pre + (if m.1 = i then a else 0)
  | [], _, _, _, _, _, _, h => absurd rfl h
  | p :: ps, r, x, hq, hl, h0, h1, _ => by
    have hp := hq p (List.mem_cons_self ..)
    have hlp := hl p (List.mem_cons_self ..)
    by_cases hr : r ≤ p.2.1
    · refine ⟨[], p, ps, r, rfl, h0, hr, ?_, fun i => ?_⟩
      · rw [fill, show min r p.2.1 = r by omega, Int.sub_self, fill_zero _ _ (fun q hq' => hq q (List.mem_cons_of_mem _ hq')), sum_set _ _ _ hlp]
      · rw [fill, show min r p.2.1 = r by omega, Int.sub_self, fill_zero _ _ (fun q hq' => hq q (List.mem_cons_of_mem _ hq')), set_get _ _ _ _ hlp, tot]
        by_cases hi : p.1 = i
        · rw [if_pos hi, if_pos hi, ← hi]; omega
        · rw [if_neg hi, if_neg hi]; omega
    · have hne : ps ≠ [] := by
        intro e; subst e; simp [tot] at h1; omega
      rw [tot] at h1
      simp only [if_true] at h1
      obtain ⟨pre, m, post, a, e, a0, a1, hs, hg⟩ := fill_split ps (r - p.2.1) (x.set p.1 (x[p.1]?.getD 0 + p.2.1)) (fun q hq' => hq q (List.mem_cons_of_mem _ hq')) (fun q hq' => by rw [List.length_set]; exact hl q (List.mem_cons_of_mem _ hq')) (by omega) (by omega) hne
      refine ⟨p :: pre, m, post, a, by rw [e]; rfl, a0, a1, ?_, fun i => ?_⟩
      · rw [fill, show min r p.2.1 = p.2.1 by omega, hs, sum_set _ _ _ hlp]; omega
      · rw [fill, show min r p.2.1 = p.2.1 by omega, hg i, set_get _ _ _ _ hlp, tot]
        by_cases hi : p.1 = i
        · have hd : decide (p.1 = i) = true := by simpa using hi
          rw [if_pos hi, if_pos hd, ← hi]; omega
        · have hd : ¬ decide (p.1 = i) = true := by simpa using hi
          rw [if_neg hi, if_neg hd]; omega

theorem left_nonneg : ∀ (st : List (Int × Int)) (t : Int), Up st → 0 ≤ t → ∀ s ∈ left t st, 0 ≤ s.1
  | [], _, _, _, s, hs => by cases hs
  | s :: r, t, hu, ht, y, hy => by
    rcases List.mem_cons.1 hy with rfl | hy
    · show 0 ≤ s.1 - min t s.1; omega
    · exact left_nonneg r _ hu.2.2 (by have := hu.1; omega) y hy
theorem left_qle {v : Int} : ∀ (st : List (Int × Int)) (t : Int), Up st → 0 ≤ t → t ≤ qs st → qle v (left t st) = max t (qle v st) - t
  | [], t, _, h0, h1 => by
    simp only [qs] at h1
    have e : t = 0 := by omega
    subst e; rfl
  | s :: r, t, hu, h0, h1 => by
    obtain ⟨hq, hr, hu'⟩ := hu
    rw [qs] at h1
    have hb := qle_bd (v := v) hu'
    have ih := left_qle (v := v) r (t - min t s.1) hu' (by omega) (by omega)
    rw [left, qle, qle, ih]
    by_cases hp : s.2 ≤ v
    · rw [if_pos hp, if_pos hp]; omega
    · have hz : qle v r = 0 := qle_zero fun y hy => by have := hr y hy; omega
      rw [if_neg hp, if_neg hp, hz]; omega
theorem left_qs : ∀ (st : List (Int × Int)) (t : Int), Up st → 0 ≤ t → t ≤ qs st → qs (left t st) = qs st - t
  | [], t, _, h0, h1 => by
    simp only [qs] at h1
    have e : t = 0 := by omega
    subst e; rfl
  | s :: r, t, hu, h0, h1 => by
    obtain ⟨hq, hr, hu'⟩ := hu
    rw [qs] at h1
    have hz := qle_bd (v := 0) hu'
    have ih := left_qs r (t - min t s.1) hu' (by omega) (by omega)
    rw [left, qs, qs, ih]
    show s.1 - min t s.1 + _ = _
    omega

theorem tot_map (k : Nat) (c : Pc → Bool) (d : Int → Bool) (h : ∀ q p, c (k, q, p) = d p) : ∀ (l : List (Int × Int)), tot c (l.map fun s => (k, s.1, s.2)) = (l.map fun s => if d s.2 then s.1 else 0).sum
  | [] => rfl
  | s :: l => by rw [List.map_cons, tot, h, tot_map k c d h l, List.map_cons, List.sum_cons]
theorem qle_sum (v : Int) : ∀ (l : List (Int × Int)), qle v l = (l.map fun s => if decide (s.2 ≤ v) then s.1 else 0).sum
  | [] => rfl
  | s :: l => by rw [qle, qle_sum v l, List.map_cons, List.sum_cons]; simp
theorem qs_sum : ∀ (l : List (Int × Int)), qs l = (l.map fun s => if (true : Bool) then s.1 else 0).sum
  | [] => rfl
  | s :: l => by rw [qs, qs_sum l, List.map_cons, List.sum_cons]; simp

theorem pieces_unit : ∀ (zs : List PU) (k : Nat) (p : Pc), p ∈ pieces k zs → k ≤ p.1 ∧ p.1 < k + zs.length
  | [], _, _, h => by cases h
  | z :: zs, k, p, h => by
    rw [pieces, List.mem_append] at h
    rcases h with h | h
    · cases hon : z.on
      · rw [hon] at h; cases h
      · rw [hon] at h
        simp only [if_true, List.mem_map] at h
        obtain ⟨s, _, rfl⟩ := h
        simp
    · have := pieces_unit zs (k + 1) p h
      simp only [List.length_cons]
      omega
theorem pieces_nonneg : ∀ (zs : List PU) (k : Nat), AllOk zs → ∀ p ∈ pieces k zs, 0 ≤ p.2.1
  | [], _, _, _, h => by cases h
  | z :: zs, k, ho, p, h => by
    rw [pieces, List.mem_append] at h
    rcases h with h | h
    · cases hon : z.on
      · rw [hon] at h; cases h
      · rw [hon] at h
        simp only [if_true, List.mem_map] at h
        obtain ⟨s, hs, rfl⟩ := h
        exact left_nonneg z.st z.mn ho.1.1 ho.1.2.1 s hs
    · exact pieces_nonneg zs (k + 1) ho.2 p h
theorem pieces_qle {v : Int} : ∀ (zs : List PU) (k j : Nat), AllOk zs → j < zs.length → tot (fun p => decide (p.1 = k + j) && decide (p.2.2 ≤ v)) (pieces k zs) = (zs[j]?.getD ⟨false, 0, []⟩).hi v - (zs[j]?.getD ⟨false, 0, []⟩).dn
  | [], _, _, _, h => absurd h (by simp)
  | z :: zs, k, 0, ho, _ => by
    rw [pieces, tot_app]
    have e2 : tot (fun p => decide (p.1 = k + 0) && decide (p.2.2 ≤ v)) (pieces (k + 1) zs) = 0 := tot_none fun p hp => by
      have := pieces_unit zs (k + 1) p hp
      simp; omega
    rw [e2]
    simp only [List.getElem?_cons_zero, Option.getD_some]
    unfold PU.hi PU.dn
    cases hon : z.on
    · simp [tot]
    · simp only [if_true]
      rw [tot_map k _ (fun p => decide (p ≤ v)) (by intro q p; simp), ← qle_sum, left_qle _ _ ho.1.1 ho.1.2.1 ho.1.2.2]
      omega
  | z :: zs, k, j + 1, ho, h => by
    rw [pieces, tot_app]
    have e1 : tot (fun p => decide (p.1 = k + (j + 1)) && decide (p.2.2 ≤ v)) (if z.on then (left z.mn z.st).map (fun s => (k, s.1, s.2)) else []) = 0 := tot_none fun p hp => by
      cases hon : z.on
      · rw [hon] at hp; cases hp
      · rw [hon] at hp
        simp only [if_true, List.mem_map] at hp
        obtain ⟨s, _, rfl⟩ := hp
        simp
    have ih := pieces_qle (v := v) zs (k + 1) j ho.2 (by simpa using h)
    have ek : k + 1 + j = k + (j + 1) := by omega
    rw [ek] at ih
    rw [e1, ih]
    simp
theorem pieces_tot : ∀ (zs : List PU) (k : Nat), AllOk zs → tot (fun _ => true) (pieces k zs) = sumR (zs.map PU.up) - sumR (zs.map PU.dn)
  | [], _, _ => rfl
  | z :: zs, k, ho => by
    rw [pieces, tot_app, pieces_tot zs (k + 1) ho.2, List.map_cons, List.map_cons, sumR, sumR]
    unfold PU.up PU.dn
    cases hon : z.on
    · simp [tot]
    · simp only [if_true]
      rw [tot_map k _ (fun _ => true) (by intro q p; rfl), ← qs_sum, left_qs _ _ ho.1.1 ho.1.2.1 ho.1.2.2]
      omega

theorem thr_of {v : Int} {u : Nat} : ∀ (zs : List PU) (xs : List Int) (k : Nat), xs.length = zs.length →
    (∀ j, j < zs.length → ((zs[j]?.getD ⟨false, 0, []⟩).lo v ≤ xs[j]?.getD 0 ∧ xs[j]?.getD 0 ≤ (zs[j]?.getD ⟨false, 0, []⟩).hi v) ∧ (k + j < u → xs[j]?.getD 0 = (zs[j]?.getD ⟨false, 0, []⟩).lo v) ∧ (u < k + j → xs[j]?.getD 0 = (zs[j]?.getD ⟨false, 0, []⟩).hi v)) → Thr v u k zs xs
  | [], [], _, _, _ => trivial
  | z :: zs, x :: xs, k, hl, h => by
    obtain ⟨h1, h2, h3⟩ := h 0 (by simp)
    refine ⟨by simpa using h1, by simpa using h2, by simpa using h3, thr_of zs xs (k + 1) (by simpa using hl) fun j hj => ?_⟩
    have := h (j + 1) (by simpa using hj)
    rw [show k + (j + 1) = k + 1 + j by omega] at this
    simpa using this
  | [], _ :: _, _, h, _ => by simp at h
  | _ :: _, [], _, h, _ => by simp at h

theorem hi_lo (z : PU) (v : Int) : z.hi (v - 1) = z.lo v := rfl

/-- Filling the pieces in order gives the optimal allocation. -/
theorem fill_opt {zs : List PU} {f : Int} {ps : List Pc} (ho : AllOk zs) (hp : ps.Perm (pieces 0 zs)) (hs : ps.Pairwise fun a b => ltP b a = false) (h1 : sumR (zs.map PU.dn) ≤ f) (h2 : f ≤ sumR (zs.map PU.up)) :
    Opt zs f (fill ps (f - sumR (zs.map PU.dn)) (zs.map PU.dn)) := by
  have hq : ∀ p ∈ ps, 0 ≤ p.2.1 := fun p h => pieces_nonneg zs 0 ho p (hp.mem_iff.1 h)
  have hu : ∀ p ∈ ps, p.1 < (zs.map PU.dn).length := fun p h => by
    have := (pieces_unit zs 0 p (hp.mem_iff.1 h)).2
    simpa using this
  have ht : f - sumR (zs.map PU.dn) ≤ tot (fun _ => true) ps := by rw [tot_perm hp, pieces_tot zs 0 ho]; omega
  have hget : ∀ j, j < zs.length → (zs.map PU.dn)[j]?.getD 0 = (zs[j]?.getD ⟨false, 0, []⟩).dn := fun j hj => by
    simp [List.getElem?_eq_getElem hj]
  by_cases hne : ps = []
  · subst hne
    simp only [tot] at ht
    refine ⟨by simp only [fill]; omega, 0, 0, thr_of _ _ _ (by simp [fill]) fun j hj => ?_⟩
    have e : ∀ v, (zs[j]?.getD ⟨false, 0, []⟩).hi v = (zs[j]?.getD ⟨false, 0, []⟩).dn := fun v => by
      have := pieces_qle (v := v) zs 0 j ho hj
      rw [← tot_perm hp] at this
      simp only [tot] at this
      omega
    simp only [fill]
    rw [hget j hj, ← hi_lo, e, e]
    exact ⟨⟨Int.le_refl _, Int.le_refl _⟩, fun _ => rfl, fun _ => rfl⟩
  · obtain ⟨pre, m, post, a, e, a0, a1, hsum, hg⟩ := fill_split ps _ (zs.map PU.dn) hq hu (by omega) ht hne
    refine ⟨by omega, m.2.2, m.1, thr_of _ _ _ (by rw [fill_len]; simp) fun j hj => ?_⟩
    rw [hg j, hget j hj, ← hi_lo, Nat.zero_add]
    have k1 := pieces_qle (v := m.2.2 - 1) zs 0 j ho hj
    have k2 := pieces_qle (v := m.2.2) zs 0 j ho hj
    rw [← tot_perm hp, e, tot_app, tot, Nat.zero_add] at k1 k2
    rw [e] at hs
    have hs' := List.pairwise_append.1 hs
    obtain ⟨_, hs2, hs3⟩ := hs'
    have hs4 := (List.pairwise_cons.1 hs2).1
    have hpre : ∀ p ∈ pre, ltP m p = false := fun p h => hs3 p h m (List.mem_cons_self ..)
    have npre : ∀ p ∈ pre, 0 ≤ p.2.1 := fun p h => hq p (by rw [e]; exact List.mem_append_left _ h)
    have npost : ∀ p ∈ post, 0 ≤ p.2.1 := fun p h => hq p (by rw [e]; exact List.mem_append_right _ (List.mem_cons_of_mem _ h))
    have A1 : ∀ p ∈ pre, p.2.2 < m.2.2 ∨ (p.2.2 = m.2.2 ∧ m.1 ≤ p.1) := fun p h => by
      have := hpre p h
      unfold ltP at this
      by_cases hh : m.2.2 = p.2.2
      · simp [hh] at this; omega
      · simp [hh] at this; omega
    have A2 : ∀ p ∈ post, m.2.2 < p.2.2 ∨ (p.2.2 = m.2.2 ∧ p.1 ≤ m.1) := fun p h => by
      have := hs4 p h
      unfold ltP at this
      by_cases hh : p.2.2 = m.2.2
      · simp [hh] at this; omega
      · simp [hh] at this; omega
    -- pieces of unit j up to a price, before and after
    have z1 : tot (fun p => decide (p.1 = j) && decide (p.2.2 ≤ m.2.2 - 1)) post = 0 := tot_none fun p h => by
      have := A2 p h
      simp; omega
    have z2 : tot (fun p => decide (p.1 = j) && decide (p.2.2 ≤ m.2.2)) pre = tot (fun p => decide (p.1 = j)) pre := tot_congr fun p h => by
      have := A1 p h
      have hle : p.2.2 ≤ m.2.2 := by omega
      simp [hle]
    have z3 : tot (fun p => decide (p.1 = j) && decide (p.2.2 ≤ m.2.2 - 1)) pre ≤ tot (fun p => decide (p.1 = j)) pre := tot_le npre fun p _ h => by
      simp at h ⊢; exact h.1
    have z4 : 0 ≤ tot (fun p => decide (p.1 = j) && decide (p.2.2 ≤ m.2.2)) post := tot_nonneg npost
    have y1 : (if (decide (m.1 = j) && decide (m.2.2 ≤ m.2.2 - 1)) = true then m.2.1 else 0) = 0 := by
      rw [if_neg]; simp; omega
    rw [z1, y1] at k1
    rw [z2] at k2
    have hmq : 0 ≤ m.2.1 := by omega
    by_cases hmj : m.1 = j
    · have y2 : (if (decide (m.1 = j) && decide (m.2.2 ≤ m.2.2)) = true then m.2.1 else 0) = m.2.1 := by
        rw [if_pos]; simp [hmj]
      rw [y2] at k2
      rw [if_pos hmj]
      exact ⟨⟨by omega, by omega⟩, fun h => by omega, fun h => by omega⟩
    · have y2 : (if (decide (m.1 = j) && decide (m.2.2 ≤ m.2.2)) = true then m.2.1 else 0) = 0 := by
        rw [if_neg]; simp [hmj]
      rw [y2] at k2
      rw [if_neg hmj]
      rcases Nat.lt_or_ge j m.1 with hlt | hge
      · have w1 : tot (fun p => decide (p.1 = j) && decide (p.2.2 ≤ m.2.2 - 1)) pre = tot (fun p => decide (p.1 = j)) pre := tot_congr fun p h => by
          have := A1 p h
          by_cases hpj : p.1 = j
          · have hle : p.2.2 ≤ m.2.2 - 1 := by omega
            simp [hle]
          · simp [hpj]
        rw [w1] at k1
        exact ⟨⟨by omega, by omega⟩, fun _ => by omega, fun h => by omega⟩
      · have w1 : tot (fun p => decide (p.1 = j) && decide (p.2.2 ≤ m.2.2)) post = 0 := tot_none fun p h => by
          have := A2 p h
          simp; omega
        rw [w1] at k2
        exact ⟨⟨by omega, by omega⟩, fun h => by omega, fun _ => by omega⟩

end En
end Go.Proofs.YtdoeejcmaeefcaaGreat
