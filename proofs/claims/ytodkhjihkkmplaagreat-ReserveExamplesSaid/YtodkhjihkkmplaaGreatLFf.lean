/-
Fill of package reserve: what it computes, the loop's memory. Words that may be overwritten: rows of rationals whose words lie apart. spoil of layer 30's statements: words of results are overwritten. Fill of package reserve, with words that may be overwritten. Fill of package reserve: the walk. No statement of the seat is proved here; no conditions beyond those of each theorem.
-/
import Derived.Test.YtodkhjihkkmplaaGreatLPQ
import Derived.Deep.CutRange
import Derived.Deep.DrawnRows
import Derived.Test.YtodkhjihkkmplaaGreatLRb9
namespace Go.Proofs.YtodkhjihkkmplaaGreat
set_option linter.unusedVariables false
set_option linter.unusedSimpArgs false
open Go.RowKit
open Wd

/-- The rooms, prices and switches of the units, by number. -/
def rmF (us : List Un) (bs : List Bool) (qs : List Rat) (i : Nat) : Rat := (mostV (bs[i]?.getD false) (us[i]?.getD U0) : Rat) - qs[i]?.getD 0
def spF (us : List Un) (i : Nat) : Int := (us[i]?.getD U0).spin
def onF (bs : List Bool) (i : Nat) : Bool := bs[i]?.getD false
def fillV (us : List Un) (bs : List Bool) (qs : List Rat) (need : Int) (ord : List Nat) : Rv.St := Rv.rfill (onF bs) (rmF us bs qs) (spF us) ord (Rv.st0 us.length (need : Rat))
/-- What Fill hands back at valid arguments. -/
def FillP (K n : Nat) (us : List Un) (bs : List Bool) (qs : List Rat) (need : Int) (w : World) (e : Ending) (w' : World) : Prop :=
 ∃ ord g A k c A' k' c', Rv.Ord (spF us) n ord ∧ e = .returned (.tuple #[.slice (some ⟨g, 0, none⟩) n n, .int .i64 (fillV us bs qs need ord).price, .agg #[.bool (decide ((fillV us bs qs need ord).rest.num < 0)), .slice A k c, .bool false, .slice A' k' c'], .int .i64 0]) ∧
  QRow w' g n (fillV us bs qs need ord).tk ∧ RQ w' (fillV us bs qs need ord).rest A k c A' k' c' ∧ w.heap.size ≤ g ∧ (∀ j, j < n → Lv (K + 6) (gtq (fillV us bs qs need ord).tk j)) ∧ Lv (K + 6) (fillV us bs qs need ord).rest ∧ Below w.heap.size w w'
where gtq (l : List Rat) (j : Nat) : Rat := l[j]?.getD 0

/-- The state after i units of the order. -/
def FiS (us : List Un) (bs : List Bool) (qs : List Rat) (need : Int) (ord : List Nat) (i : Nat) : Rv.St := Rv.rfill (onF bs) (rmF us bs qs) (spF us) (ord.take i) (Rv.st0 us.length (need : Rat))
theorem fis_next {us : List Un} {bs : List Bool} {qs : List Rat} {need : Int} {ord : List Nat} {i : Nat} (hi : i < ord.length) : FiS us bs qs need ord (i + 1) = Rv.rstep (onF bs) (rmF us bs qs) (spF us) (FiS us bs qs need ord i) (ord[i]?.getD 0) := by
 unfold FiS
 rw [List.take_succ_eq_append_getElem hi, Rv.rfill_snoc, List.getElem?_eq_getElem hi]
 rfl
/-- The loop's memory before unit i of the order. -/
def FiR (K n gr gt : Nat) (W0 : World) (i : Nat) (tk : List Rat) (rest : Rat) (wr : World) : Prop :=
 Rk2 gr gt W0 wr ∧ (∃ A k c A' k' c', Blk wr gr 31 #[.bool (decide (rest.num < 0)), .slice A k c, .bool false, .slice A' k' c'] ∧ RQ wr rest A k c A' k' c') ∧ QRow wr gt n tk ∧ Lv (K + 1 + i) rest ∧ ∀ j, j < n → Lv (K + 1 + i) (tk[j]?.getD 0)
theorem FiR.call {K n gr gt : Nat} {W0 : World} {i : Nat} {tk : List Rat} {rest : Rat} {w w' : World} (h : FiR K n gr gt W0 i tk rest w) (hb : Below w.heap.size w w') : FiR K n gr gt W0 i tk rest w' := by
 obtain ⟨h1, ⟨A, k, c, A', k', c', h2, h3⟩, h4, h5, h6⟩ := h
 exact ⟨h1.call hb, ⟨A, k, c, A', k', c', h2.below hb h2.lt, h3.below hb⟩, h4.below hb, h5, h6⟩
theorem sgn_pos (q : Rat) : decide (0 < sgnQ q) = decide (0 < q) := by
 have h : (0 : Rat) < q ↔ 0 < q.num := by rw [Rat.lt_iff]; simp
 unfold sgnQ cmpI
 by_cases h1 : 0 < q.num
 ·simp [h, h1]; split <;> omega
 ·simp [h, h1]; split <;> (try split) <;> omega

end Go.Proofs.YtodkhjihkkmplaaGreat

namespace Go.Proofs.YtodkhjihkkmplaaGreat
set_option linter.unusedVariables false
set_option linter.unusedSimpArgs false
open Go.RowKit
open Wd

/-- The k words at A lie from block base on, not in block g, and may be written. -/
def Wr (base g : Nat) (w : World) (A : Option Addr) (k : Nat) : Prop := k ≤ 1000000000000 ∧ (k ≠ 0 → ∃ b o, A = some ⟨b, o, none⟩ ∧ base ≤ b ∧ b ≠ g ∧ b < w.heap.size ∧ ∀ j, j < k → (∃ v, w.cell? ⟨b, o + j, none⟩ = some v) ∧ w.frozen? ⟨b, o + j, none⟩ = false)
section
variable {base g k c k' c' : Nat} {w w' : World} {A A' B B' : Option Addr} {l : List Nat} {a b : Bool}
theorem Wr.nil : Wr base g w A 0 := ⟨by decide, fun h => absurd rfl h⟩
theorem Wr.below (h : Wr base g w A k) (hb : Below w.heap.size w w') : Wr base g w' A k := by
 refine ⟨h.1, fun hk => ?_⟩
 obtain ⟨b, o, rfl, h1, h2, h3, h4⟩ := h.2 hk
 exact ⟨b, o, rfl, h1, h2, Nat.lt_of_lt_of_le h3 hb.size, fun j hj => ⟨(h4 j hj).1.imp fun v hv => (hb.cell (p := ⟨b, o + j, none⟩) h3).trans hv, (hb.frozen (p := ⟨b, o + j, none⟩) h3).trans (h4 j hj).2⟩⟩
theorem Wr.set (h : Wr base g w A k) (p : Addr) (v : Value) : Wr base g (w.setCell p v) A k := by
 refine ⟨h.1, fun hk => ?_⟩
 obtain ⟨b, o, rfl, h1, h2, h3, h4⟩ := h.2 hk
 exact ⟨b, o, rfl, h1, h2, by simpa [World.setCell] using h3, fun j hj => ⟨by obtain ⟨u, hu⟩ := (h4 j hj).1; exact cell?_setCell_some hu, by rw [World.frozen?_setCell]; exact (h4 j hj).2⟩⟩
theorem Wr.qst {g' o : Nat} {j d j' d' : Nat} (h : Wr base g w A k) : Wr base g (qst w g' o a b B B' j d j' d') A k := (((h.set _ _).set _ _).set _ _).set _ _
theorem Wr.of {F : Nat} (hF : Fresh F w A k) (hW : Wat w A k l) (h1 : base ≤ F) (h2 : g < F) (h0 : k ≤ 1000000000000) : Wr base g w A k := by
 refine ⟨h0, fun hk => ?_⟩
 obtain ⟨b, o, rfl, h3, h4⟩ := hF hk
 obtain ⟨b', o', he, h5, h6⟩ := hW.2.2 hk
 cases he
 exact ⟨b, o, rfl, by omega, by omega, h5, fun j hj => ⟨⟨_, h6 j hj⟩, h4 j hj⟩⟩
end

theorem RQ.lens {s k c k' c' : Nat} {w : World} {q : Rat} {A A' : Option Addr} (h : RQ w q A k c A' k' c') (hq : Ls s q) : k ≤ s ∧ k' ≤ s := by
 obtain ⟨-, -, h1, h2⟩ := h
 constructor
 ·rw [← h1.1]
  exact digs_len_le.2 hq.1
 ·rw [← h2.1]
  have := digs_len_le.2 hq.2
  unfold denW
  split
  ·exact Nat.zero_le _
  ·exact this
/-- A row of n rationals in block g, whose words may be overwritten. -/
def FrRow (base : Nat) (w : World) (g n : Nat) : Prop :=
 ∃ cs, Blk w g 31 cs ∧ cs.size = n * 4 ∧ ∀ j, j < n → ∃ a A k c a' A' k' c', cs[j * 4]? = some (.bool a) ∧ cs[j * 4 + 1]? = some (.slice A k c) ∧ cs[j * 4 + 2]? = some (.bool a') ∧ cs[j * 4 + 3]? = some (.slice A' k' c') ∧ k ≤ c ∧ k' ≤ c' ∧ Wr base g w A k ∧ Wr base g w A' k'
section
variable {base g n : Nat} {w w' : World}
theorem FrRow.below (h : FrRow base w g n) (hb : Below w.heap.size w w') : FrRow base w' g n := by
 obtain ⟨cs, h1, h2, h3⟩ := h
 refine ⟨cs, h1.below hb h1.lt, h2, fun j hj => ?_⟩
 obtain ⟨a, A, k, c, a', A', k', c', e1, e2, e3, e4, e5, e6, e7, e8⟩ := h3 j hj
 exact ⟨a, A, k, c, a', A', k', c', e1, e2, e3, e4, e5, e6, e7.below hb, e8.below hb⟩
theorem FrRow.set (h : FrRow base w g n) {p : Addr} (hp : p.block ≠ g) (v : Value) : FrRow base (w.setCell p v) g n := by
 obtain ⟨cs, h1, h2, h3⟩ := h
 refine ⟨cs, h1.far hp.symm v, h2, fun j hj => ?_⟩
 obtain ⟨a, A, k, c, a', A', k', c', e1, e2, e3, e4, e5, e6, e7, e8⟩ := h3 j hj
 exact ⟨a, A, k, c, a', A', k', c', e1, e2, e3, e4, e5, e6, e7.set _ _, e8.set _ _⟩
theorem FrRow.put {i : Nat} {a b : Bool} {A A' : Option Addr} {k c k' c' : Nat} (h : FrRow base w g n) (hi : i < n) (hk : k ≤ c) (hk' : k' ≤ c') (hA : Wr base g w A k) (hA' : Wr base g w A' k') : FrRow base (qst w g (i * 4) a b A A' k c k' c') g n := by
 obtain ⟨cs, h1, h2, h3⟩ := h
 refine ⟨_, h1.put4, by rw [qput_size, h2], fun j hj => ?_⟩
 by_cases hji : j = i
 ·subst hji
  obtain ⟨e1, e2, e3, e4⟩ := qput_same (cs := cs) (o := j * 4) (a := a) (b := b) (A := A) (A' := A') (k := k) (c := c) (k' := k') (c' := c') (by omega)
  exact ⟨_, _, _, _, _, _, _, _, e1, e2, e3, e4, hk, hk', hA.qst, hA'.qst⟩
 ·obtain ⟨a, A, k, c, a', A', k', c', e1, e2, e3, e4, e5, e6, e7, e8⟩ := h3 j hj
  refine ⟨a, A, k, c, a', A', k', c', ?_, ?_, ?_, ?_, e5, e6, e7.qst, e8.qst⟩
  ·rw [qput_other (by omega)]; exact e1
  ·rw [qput_other (by omega)]; exact e2
  ·rw [qput_other (by omega)]; exact e3
  ·rw [qput_other (by omega)]; exact e4
theorem FrRow.far4 {g' o : Nat} {a b : Bool} {A A' : Option Addr} {k c k' c' : Nat} (h : FrRow base w g n) (hg : g' ≠ g) : FrRow base (qst w g' o a b A A' k c k' c') g n :=
 (((h.set (p := ⟨g', o, none⟩) hg _).set (p := ⟨g', o + 1, none⟩) hg _).set (p := ⟨g', o + 2, none⟩) hg _).set (p := ⟨g', o + 3, none⟩) hg _
theorem FrRow.start (base : Nat) (w : World) (n : Nat) : FrRow base (w.alloc (.cells (madeCells qzero (n * 4)) 31)) w.heap.size n := by
 refine ⟨_, Blk.new _ _ _, size_madeCells _ _, fun j hj => ⟨false, none, 0, 0, false, none, 0, 0, ?_, ?_, ?_, ?_, Nat.le_refl _, Nat.le_refl _, Wr.nil, Wr.nil⟩⟩
 ·rw [made_get _ _ (by omega), show j * 4 % 4 = 0 by omega]; rfl
 ·rw [made_get _ _ (by omega), show (j * 4 + 1) % 4 = 1 by omega]; rfl
 ·rw [made_get _ _ (by omega), show (j * 4 + 2) % 4 = 2 by omega]; rfl
 ·rw [made_get _ _ (by omega), show (j * 4 + 3) % 4 = 3 by omega]; rfl
theorem FrRow.lt (h : FrRow base w g n) : g < w.heap.size := by obtain ⟨cs, h1, -⟩ := h; exact h1.lt
theorem FrRow.cells (h : FrRow base w g n) {j : Nat} (hj : j < n) : ∃ a A k c a' A' k' c', w.cell? ⟨g, j * 4, none⟩ = some (.bool a) ∧ w.cell? ⟨g, j * 4 + 1, none⟩ = some (.slice A k c) ∧ w.cell? ⟨g, j * 4 + 2, none⟩ = some (.bool a') ∧ w.cell? ⟨g, j * 4 + 3, none⟩ = some (.slice A' k' c') ∧
  w.frozen? ⟨g, j * 4, none⟩ = false ∧ w.frozen? ⟨g, j * 4 + 1, none⟩ = false ∧ w.frozen? ⟨g, j * 4 + 2, none⟩ = false ∧ w.frozen? ⟨g, j * 4 + 3, none⟩ = false ∧ k ≤ c ∧ k' ≤ c' ∧ Wr base g w A k ∧ Wr base g w A' k' := by
 obtain ⟨cs, h1, h2, h3⟩ := h
 obtain ⟨a, A, k, c, a', A', k', c', e1, e2, e3, e4, e5, e6, e7, e8⟩ := h3 j hj
 exact ⟨a, A, k, c, a', A', k', c', (h1.cell _).trans e1, (h1.cell _).trans e2, (h1.cell _).trans e3, (h1.cell _).trans e4, h1.frozen _, h1.frozen _, h1.frozen _, h1.frozen _, e5, e6, e7, e8⟩
end

/-- A row of one rational whose words may be overwritten. -/
theorem fr_one {base : Nat} {w : World} {a a' : Bool} {A A' : Option Addr} {k c k' c' : Nat} (hk : k ≤ c) (hk' : k' ≤ c') (h : Wr base w.heap.size w A k) (h' : Wr base w.heap.size w A' k') : FrRow base (w.alloc (.cells #[.bool a, .slice A k c, .bool a', .slice A' k' c'] 31)) w.heap.size 1 := by
 refine ⟨_, Blk.new _ _ _, rfl, fun j hj => ?_⟩
 obtain rfl : j = 0 := by omega
 exact ⟨a, A, k, c, a', A', k', c', rfl, rfl, rfl, rfl, hk, hk', h.below ((Kp.refl w).alloc _), h'.below ((Kp.refl w).alloc _)⟩
theorem Wr.new {base F g : Nat} {w : World} {A : Option Addr} {k : Nat} {l : List Nat} (hF : Fresh F w A k) (hW : Wat w A k l) (h1 : base ≤ F) (hg : w.heap.size ≤ g) (h0 : k ≤ 1000000000000) : Wr base g w A k := by
 refine ⟨h0, fun hk => ?_⟩
 obtain ⟨b, o, rfl, h3, h4⟩ := hF hk
 obtain ⟨b', o', he, h5, h6⟩ := hW.2.2 hk
 cases he
 exact ⟨b, o, rfl, by omega, by omega, h5, fun j hj => ⟨⟨_, h6 j hj⟩, h4 j hj⟩⟩
theorem Wr.move {base g G : Nat} {w : World} {A : Option Addr} {k : Nat} (h : Wr base g w A k) (hG : w.heap.size ≤ G) : Wr base G w A k := by
 refine ⟨h.1, fun hk => ?_⟩
 obtain ⟨b, o, e, h1, h2, h3, h4⟩ := h.2 hk
 exact ⟨b, o, e, h1, by omega, h3, h4⟩

end Go.Proofs.YtodkhjihkkmplaaGreat

namespace Go.Proofs.YtodkhjihkkmplaaGreat
set_option linter.unusedVariables false
set_option linter.unusedSimpArgs false
open Go.RowKit
open Wd

/-- Words of a row lie below block top. -/
def TopOk (top : Nat) (w : World) (g n : Nat) : Prop := ∀ j, j < n → ∀ A k c, (w.cell? ⟨g, j * 4 + 1, none⟩ = some (.slice A k c) ∨ w.cell? ⟨g, j * 4 + 3, none⟩ = some (.slice A k c)) → k ≠ 0 → ∀ b o, A = some ⟨b, o, none⟩ → b < top
/-- Only blocks from base to top may have turned, and what may be overwritten still may. -/
def Sp (base top : Nat) (w w' : World) : Prop := Below base w w' ∧ w'.heap.size = w.heap.size ∧ (∀ k, top ≤ k → w'.heap[k]? = w.heap[k]?) ∧ ∀ base' g A k, Wr base' g w A k → Wr base' g w' A k
theorem Sp.refl (base top : Nat) (w : World) : Sp base top w w := ⟨Below.refl _ _, rfl, fun _ _ => rfl, fun _ _ _ _ h => h⟩
theorem Sp.set {base top : Nat} {w w' : World} (h : Sp base top w w') {p : Addr} (h1 : base ≤ p.block) (h2 : p.block < top) (v : Value) : Sp base top w (w'.setCell p v) :=
 ⟨h.1.setCell h1 v, (World.size_setCell ..).trans h.2.1, fun k hk => (Below.heap_setCell _ _ _ _ (by omega)).trans (h.2.2.1 k hk), fun b g A k hw => (h.2.2.2 b g A k hw).set _ _⟩
theorem FrRow.top {base g n : Nat} {w : World} (h : FrRow base w g n) : TopOk w.heap.size w g n := by
 intro j hj A k c hc hk b o hA
 obtain ⟨a, A1, k1, c1, a', A2, k2, c2, -, e1, -, e2, -, -, -, -, -, -, e3, e4⟩ := h.cells hj
 rcases hc with hc | hc
 ·rw [e1] at hc
  cases hc
  obtain ⟨b', o', e, _, _, hlt, _⟩ := e3.2 hk
  rw [hA] at e
  cases e
  exact hlt
 ·rw [e2] at hc
  cases hc
  obtain ⟨b', o', e, _, _, hlt, _⟩ := e4.2 hk
  rw [hA] at e
  cases e
  exact hlt
theorem TopOk.below {top g n : Nat} {w w' : World} (h : TopOk top w g n) (hb : Below w.heap.size w w') (hg : g < w.heap.size) : TopOk top w' g n := fun j hj A k c hc hk b o hA =>
 h j hj A k c (hc.imp (fun h => (hb.cell (p := ⟨g, j * 4 + 1, none⟩) hg).symm.trans h) (fun h => (hb.cell (p := ⟨g, j * 4 + 3, none⟩) hg).symm.trans h)) hk b o hA
theorem TopOk.set {top g n : Nat} {w : World} (h : TopOk top w g n) {p : Addr} (hp : p.block ≠ g) (v : Value) : TopOk top (w.setCell p v) g n := fun j hj A k c hc hk b o hA =>
 h j hj A k c (hc.imp (fun h => (World.cell?_setCell_far _ _ _ _ hp).symm.trans h) (fun h => (World.cell?_setCell_far _ _ _ _ hp).symm.trans h)) hk b o hA
theorem qst_other {w : World} {g o x : Nat} {a b : Bool} {A A' : Option Addr} {k c k' c' : Nat} (h : x < o ∨ o + 3 < x) : (qst w g o a b A A' k c k' c').cell? ⟨g, x, none⟩ = w.cell? ⟨g, x, none⟩ := by
 unfold qst
 have ne : ∀ y, y ≠ x → (⟨g, y, none⟩ : Addr) ≠ ⟨g, x, none⟩ := fun y hy e => hy (by injection e)
 rw [World.cell?_setCell_other _ _ _ _ (ne _ (by omega)), World.cell?_setCell_other _ _ _ _ (ne _ (by omega)), World.cell?_setCell_other _ _ _ _ (ne _ (by omega)), World.cell?_setCell_other _ _ _ _ (ne _ (by omega))]
theorem TopOk.nil {top base g n i : Nat} {w : World} (h : TopOk top w g n) (hr : FrRow base w g n) (hi : i < n) : TopOk top (qst w g (i * 4) false false none none 0 0 0 0) g n := by
 intro j hj A k c hc hk b o hA
 by_cases hji : j = i
 ·subst hji
  have hf := hr.put (i := j) (a := false) (b := false) (A := none) (A' := none) hi (Nat.le_refl 0) (Nat.le_refl 0) Wr.nil Wr.nil
  obtain ⟨cs, h1, h2, h3⟩ := hr
  obtain ⟨e1, e2, e3, e4⟩ := qput_same (cs := cs) (o := j * 4) (a := false) (b := false) (A := none) (A' := none) (k := 0) (c := 0) (k' := 0) (c' := 0) (by omega)
  have h1' := h1.put4 (o := j * 4) (a := false) (b := false) (A := none) (A' := none) (k := 0) (c := 0) (k' := 0) (c' := 0)
  rcases hc with hc | hc
  ·rw [h1'.cell, e2] at hc
   cases hc
   cases hA
  ·rw [h1'.cell, e4] at hc
   cases hc
   cases hA
 ·rw [qst_other (by omega), qst_other (by omega)] at hc
  exact h j hj A k c hc hk b o hA
theorem Sp.qst {base top g o : Nat} {w w' : World} {a b : Bool} {A A' : Option Addr} {k c k' c' : Nat} (h : Sp base top w w') (h1 : base ≤ g) (h2 : g < top) : Sp base top w (qst w' g o a b A A' k c k' c') :=
 (((h.set (p := ⟨g, o, none⟩) h1 h2 _).set (p := ⟨g, o + 1, none⟩) h1 h2 _).set (p := ⟨g, o + 2, none⟩) h1 h2 _).set (p := ⟨g, o + 3, none⟩) h1 h2 _

/-- The memory while the words of number i are overwritten. -/
def SpI (base top g n i : Nat) (A : Option Addr) (k c : Nat) (A' : Option Addr) (k' c' : Nat) (w wv : World) : Prop :=
 Sp base top w wv ∧ (FrRow base wv g n ∧ TopOk top wv g n) ∧ wv.cell? ⟨g, i * 4 + 1, none⟩ = some (.slice A k c) ∧ wv.cell? ⟨g, i * 4 + 3, none⟩ = some (.slice A' k' c') ∧ Wr base g wv A k ∧ Wr base g wv A' k'
theorem SpI.put {base top g n i k c k' c' b o : Nat} {A A' : Option Addr} {w wv : World} {v : Value} (h : SpI base top g n i A k c A' k' c' w wv) (h1 : base ≤ b) (h2 : b ≠ g) (h3 : b < top) : SpI base top g n i A k c A' k' c' w (wv.setCell ⟨b, o, none⟩ v) := by
 obtain ⟨y1, y2, y3, y4, y5, y6⟩ := h
 exact ⟨y1.set (p := ⟨b, o, none⟩) h1 h3 v, ⟨y2.1.set (p := ⟨b, o, none⟩) h2 v, y2.2.set (p := ⟨b, o, none⟩) h2 v⟩, (World.cell?_setCell_far _ _ _ _ h2).trans y3, (World.cell?_setCell_far _ _ _ _ h2).trans y4, y5.set _ _, y6.set _ _⟩
set_option maxRecDepth 100000 in
set_option maxHeartbeats 4000000 in
theorem spoil_any (base top g n c0 : Nat) (w : World) (h : FrRow base w g n) (ht : TopOk top w g n) (hg : base ≤ g) (hgt : g < top) (hn : n ≤ 1000000000000) :
  Calls Tryz.prog 16 #[.slice (some ⟨g, 0, none⟩) n c0] w fun e w' => e = .returned (.tuple #[]) ∧ Sp base top w w' := by
 have HR := Lib.hid (And.intro h ht)
 clear h ht
 go_enter Tryz.func16, Tryz.ntmps16
 go_wp2_with fail
 go_loopw [2] (fun t wr => ∃ i : Nat, i ≤ n ∧ t = .int .i64 (i : Int) ∧ Hid (Sp base top w wr ∧ FrRow base wr g n ∧ TopOk top wr g n)) (fun t _ => n - (intOf t).toNat)
 case atStart => exact ⟨0, Nat.zero_le _, rfl, Lib.hid ⟨Sp.refl _ _ _, HR.out⟩⟩
 case round =>
  obtain ⟨i, hi, rfl, hX⟩ := hrel
  by_cases hlt : i < n
  ·obtain ⟨x1, x2, x7⟩ := hX.out
   obtain ⟨a, A, k, c, a', A', k', c', -, x3, -, x4, -, -, -, -, -, -, x5, x6⟩ := x2.cells hlt
   have HS := Lib.hid (show SpI base top g n i A k c A' k' c' w wr from ⟨x1, ⟨x2, x7⟩, x3, x4, x5, x6⟩)
   have hki1 : (0 : Int) ≤ (i : Int) := by omega
   have hki2 : (i : Int) < (n : Int) := by omega
   clear hX x1 x2 x3 x4 x5 x6 x7 HR
   go_wp2_with fail
   go_loopw [3] (fun t wv => ∃ j : Nat, j ≤ k ∧ t = .int .i64 (j : Int) ∧ Hid (SpI base top g n i A k c A' k' c' w wv)) (fun t _ => k - (intOf t).toNat)
   case atStart => exact ⟨0, Nat.zero_le _, rfl, HS⟩
   case round =>
    obtain ⟨j, hj, rfl, hY⟩ := hrel
    have hY' := hY.out
    obtain ⟨y1, y2, y3, y4, y5, y6⟩ := hY.out
    have hk9 : k ≤ 1000000000000 := y5.1
    by_cases hjk : j < k
    ·obtain ⟨b9, o9, rfl, hb1, hb2, hb3, hb4⟩ := y5.2 (by omega)
     obtain ⟨⟨v9, hv9⟩, hfz⟩ := hb4 j hjk
     have i1 : IntKind.i64.wrap ((j : Int) + 1) = ((j + 1 : Nat) : Int) := IntWalk.i64_in _ (by omega)
     have hj1 : (0 : Int) ≤ (j : Int) := by omega
     have hj2 : (j : Int) < (k : Int) := by omega
     have HN := Lib.hid (SpI.put hY' (o := o9 + j) (v := .int .u32 7) hb1 hb2 (y2.2 i hlt _ _ _ (.inl y3) (by omega) _ _ rfl))
     clear hY hY' y1 y2 y5 y6 hb1 hb2 hb3 hb4
     go_wp2
     go_roundw
     case rel => exact ⟨j + 1, by omega, by first | rfl | go_num, HN⟩
     case measure => simp [intOf]; omega
    ·obtain rfl : k = j := by omega
     have HY := Lib.hid hY'
     clear hY hY' y1 y2 y5 y6 hk9 hj
     go_wp2_with fail
     clear y3 y4 hjk
     go_loopw [4] (fun t wv => ∃ l : Nat, l ≤ k' ∧ t = .int .i64 (l : Int) ∧ Hid (SpI base top g n i A k c A' k' c' w wv)) (fun t _ => k' - (intOf t).toNat)
     case atStart => exact ⟨0, Nat.zero_le _, rfl, HY⟩
     case round =>
      obtain ⟨l, hj, rfl, hY⟩ := hrel
      have hY' := hY.out
      obtain ⟨y1, y2, y3, y4, y5, y6⟩ := hY.out
      have hk9 : k' ≤ 1000000000000 := y6.1
      by_cases hjk : l < k'
      ·obtain ⟨b9, o9, rfl, hb1, hb2, hb3, hb4⟩ := y6.2 (by omega)
       obtain ⟨⟨v9, hv9⟩, hfz⟩ := hb4 l hjk
       have i1 : IntKind.i64.wrap ((l : Int) + 1) = ((l + 1 : Nat) : Int) := IntWalk.i64_in _ (by omega)
       have hj1 : (0 : Int) ≤ (l : Int) := by omega
       have hj2 : (l : Int) < (k' : Int) := by omega
       have HN := Lib.hid (SpI.put hY' (o := o9 + l) (v := .int .u32 7) hb1 hb2 (y2.2 i hlt _ _ _ (.inr y4) (by omega) _ _ rfl))
       clear hY hY' y1 y2 y5 y6 hb1 hb2 hb3 hb4
       go_wp2
       go_roundw
       case rel => exact ⟨l + 1, by omega, by first | rfl | go_num, HN⟩
       case measure => simp [intOf]; omega
      ·obtain rfl : k' = l := by omega
       have HY := Lib.hid hY'
       clear hY hY' y1 y2 y5 y6 hk9 hj
       obtain ⟨z1, ⟨z2, z3⟩, -⟩ := HY.out
       obtain ⟨_, _, _, _, _, _, _, _, e0, -, e2, -, f0, f1, f2, f3, -⟩ := z2.cells hlt
       have i1 : IntKind.i64.wrap ((i : Int) + 1) = ((i + 1 : Nat) : Int) := IntWalk.i64_in _ (by omega)
       have HN := Lib.hid (show ∀ w', w' = qst wr g (i * 4) false false none none 0 0 0 0 → Sp base top w w' ∧ FrRow base w' g n ∧ TopOk top w' g n from fun w' hw => by subst hw; exact ⟨z1.qst hg hgt, z2.put hlt (Nat.le_refl _) (Nat.le_refl _) Wr.nil Wr.nil, z3.nil z2 hlt⟩)
       clear z1 z2 z3 HY
       go_wp2_with fail
       have e8 : (((wr.setCell ⟨g, i * 4, none⟩ (.bool false)).setCell ⟨g, i * 4 + 1, none⟩ (.slice none 0 0)).setCell ⟨g, i * 4 + 2, none⟩ (.bool false)).setCell ⟨g, i * 4 + 3, none⟩ (.slice none 0 0) = qst wr g (i * 4) false false none none 0 0 0 0 := rfl
       try rw [e8]
       have HF := Lib.hid (HN.out _ rfl)
       clear HN
       go_roundw
       case rel => exact ⟨i + 1, by omega, by first | rfl | go_num, HF⟩
       case measure => simp [intOf]; omega
  ·obtain rfl : i = n := by omega
   obtain ⟨x1, -⟩ := hX.out
   have HF := Lib.hid x1
   clear hX x1 HR
   go_wp2
   refine bodyPost_end (v := .tuple #[]) ?_ rfl ⟨rfl, HF.out⟩
   simp [results, Tryz.results16]

end Go.Proofs.YtodkhjihkkmplaaGreat

namespace Go.Proofs.YtodkhjihkkmplaaGreat
set_option linter.unusedVariables false
set_option linter.unusedSimpArgs false
open Go.RowKit
open Wd

/-- What Fill hands back at valid arguments: words of its own. -/
def FillF (K n : Nat) (us : List Un) (bs : List Bool) (qs : List Rat) (need : Int) (w : World) (e : Ending) (w' : World) : Prop :=
 ∃ ord g A k c A' k' c', Rv.Ord (spF us) n ord ∧ e = .returned (.tuple #[.slice (some ⟨g, 0, none⟩) n n, .int .i64 (fillV us bs qs need ord).price, .agg #[.bool (decide ((fillV us bs qs need ord).rest.num < 0)), .slice A k c, .bool false, .slice A' k' c'], .int .i64 0]) ∧
  QRow w' g n (fillV us bs qs need ord).tk ∧ RQ w' (fillV us bs qs need ord).rest A k c A' k' c' ∧ w.heap.size ≤ g ∧ FrRow w.heap.size w' g n ∧ Wr w.heap.size w'.heap.size w' A k ∧ Wr w.heap.size w'.heap.size w' A' k' ∧ (∀ j, j < n → Lv (K + 6) ((fillV us bs qs need ord).tk[j]?.getD 0)) ∧ Lv (K + 6) (fillV us bs qs need ord).rest ∧ Below w.heap.size w w'
/-- The words of a box. -/
theorem FrRow.box {base g k c k' c' : Nat} {w : World} {a b : Bool} {A A' : Option Addr} (h : FrRow base w g 1) (hb : Blk w g 31 #[.bool a, .slice A k c, .bool b, .slice A' k' c']) : Wr base g w A k ∧ Wr base g w A' k' := by
 obtain ⟨x, A1, k1, c1, x', A2, k2, c2, -, e1, -, e2, -, -, -, -, -, -, e3, e4⟩ := h.cells (j := 0) (by decide)
 rw [show 0 * 4 + 1 = 1 from rfl, hb.cell 1] at e1
 rw [show 0 * 4 + 3 = 3 from rfl, hb.cell 3] at e2
 simp at e1 e2
 obtain ⟨rfl, rfl, rfl⟩ := e1
 obtain ⟨rfl, rfl, rfl⟩ := e2
 exact ⟨e3, e4⟩
theorem three_len {j : Nat} {K i : Nat} (hK : K ≤ 11) (hi : i ≤ 4) (h : j ≤ 7 * 3 ^ (K + 1 + i)) : j ≤ 1000000000000 := by
 have := three16 (k := K + 1 + i) (by omega)
 omega

set_option maxRecDepth 100000 in
set_option maxHeartbeats 8000000 in
theorem fill_fr (K : Nat) (hK : K ≤ 11) (A B C : Option Addr) (n c m d p pc : Nat) (us : List Un) (bs : List Bool) (qs : List Rat) (need : Int) (w : World) (h : UsAt w A n us) (h' : BsAt w B m bs) (hg : GsAt K w C p qs) (hm : n ≤ 1000000000000) (hm' : m ≤ 1000000000000) (hp : p ≤ 1000000000000) (hr : rchk us bs qs need = 0) :
  Calls Tryz.prog 13 #[.slice A n c, .slice B m d, .slice C p pc, .int .i64 need] w (FillF K n us bs qs need w) := by
 have CC := fun W (hW : Below w.heap.size w W) => rcheck_any K (by omega) A B C n c m d p pc us bs qs need W (h.below hW) (h'.below hW) (hg.below hW) hm hm' hp
 rw [hr] at CC
 obtain ⟨he, hq1, hgk, hn0, hn1⟩ := rchk_ok hr
 obtain ⟨hn5, hmn, hok⟩ := echk_ok he
 have hl := h.1
 have hl' := h'.1
 have hl2 := hg.1
 obtain rfl : m = n := by omega
 obtain rfl : p = m := by omega
 have hn : p ≤ 5 := by omega
 have CC := Lib.hid CC
 have HX := Lib.hid h
 have HY := Lib.hid h'
 have HG := Lib.hid hg
 have HMV := Lib.hid (fun (k : Nat) (hk : k < p) b => mostV_bd he (j := k) (by omega) b)
 have HL := Lib.hid hl
 have hmk := fun w => run_make_order p (by omega) w
 have hmq := fun w => run_make_Q p (by omega) w
 have HMK := Lib.hid hmk
 have HMQ := Lib.hid hmq
 clear h h' hg hm hm' hp hr he hq1 hgk hn5 hmn hok hl hl' hl2 hmk hmq
 unfold FillF
 go_enter Tryz.func13, Tryz.ntmps13
 go_wp2_with fail
 obtain ⟨hB0, hB1, hBW, hsz⟩ := pre2 w 22 #[.slice A p c] 31 #[.bool false, .slice none 0 0, .bool false, .slice none 0 0]
 generalize (w.alloc (.cells #[.slice A p c] 22)).alloc (.cells #[.bool false, .slice none 0 0, .bool false, .slice none 0 0] 31) = W at *
 have HSZ := Lib.hid hsz
 clear hsz
 have hlA := hB0.cell 0
 go_wp2_with fail
 refine (CC.out W hBW).mono ?_
 rintro e w1 ⟨rfl, hb1⟩
 have hB0 := hB0.below hb1 hB0.lt
 have hB1 := hB1.below hb1 hB1.lt
 have hBW := hBW.trans (hb1.mono hBW.size)
 have hlA := hB0.cell 0
 have hmk := HMK.out
 clear hb1 CC HSZ
 go_wp2_with fail
 have hO0 : ORow ((w1.alloc (.cells (Array.replicate p (.int .i64 0)) 3)).alloc (.cells #[.slice (some ⟨w1.heap.size, 0, none⟩) p p] 66)) w1.heap.size (List.replicate p 0) := by
  have := (Blk.new w1 3 (Array.replicate p (Value.int .i64 0))).alloc (.cells #[.slice (some ⟨w1.heap.size, 0, none⟩) p p] 66)
  unfold ORow
  simpa using this
 have hO1 := Blk.new1 w1 (.cells (Array.replicate p (Value.int .i64 0)) 3) 66 #[.slice (some ⟨w1.heap.size, 0, none⟩) p p]
 have hO2 : Below w1.heap.size w1 ((w1.alloc (.cells (Array.replicate p (.int .i64 0)) 3)).alloc (.cells #[.slice (some ⟨w1.heap.size, 0, none⟩) p p] 66)) := ((Below.refl _ _).alloc (Nat.le_refl _) _).alloc (by simp only [World.size_alloc]; omega) _
 generalize (w1.alloc (.cells (Array.replicate p (.int .i64 0)) 3)).alloc (.cells #[.slice (some ⟨w1.heap.size, 0, none⟩) p p] 66) = W2 at *
 have HST := Lib.hid (show Below w1.heap.size w1 W2 ∧ Blk W2 (w1.heap.size + 1) 66 #[.slice (some ⟨w1.heap.size, 0, none⟩) p p] ∧ ORow W2 w1.heap.size (List.replicate p 0) from ⟨hO2, hO1, hO0⟩)
 clear hmk hO0 hO1 hO2 hlA
 go_loopw [33] (fun t wr => ∃ (k : Nat) (xs : List Int), k ≤ p ∧ t = .int .i64 k ∧ Hid (Below w1.heap.size w1 wr ∧ Blk wr (w1.heap.size + 1) 66 #[.slice (some ⟨w1.heap.size, 0, none⟩) p p] ∧ ORow wr w1.heap.size xs ∧ xs.length = p ∧ ∀ j, j < k → xs[j]?.getD 0 = (j : Int))) (fun t _ => p - (intOf t).toNat)
 case atStart => exact ⟨0, List.replicate p 0, Nat.zero_le _, rfl, Lib.hid ⟨HST.out.1, HST.out.2.1, HST.out.2.2, by simp, fun j hj => absurd hj (by omega)⟩⟩
 case round =>
  clear HST
  obtain ⟨k, xs, hk, rfl, hX⟩ := hrel
  by_cases hlt : k < p
  ·obtain ⟨x1, x2, x3, x4, x5⟩ := hX.out
   have y1 := x2.cell 0
   have y2 := x3.frozen k
   have y3 := x3.cell (i := k) (by omega)
   have hki : (0 : Int) ≤ (k : Int) ∧ (k : Int) < (p : Int) := by omega
   obtain ⟨hki1, hki2⟩ := hki
   have hR : Below w1.heap.size w1 (wr.setCell ⟨w1.heap.size, k, none⟩ (.int .i64 (k : Int))) ∧ Blk (wr.setCell ⟨w1.heap.size, k, none⟩ (.int .i64 (k : Int))) (w1.heap.size + 1) 66 #[.slice (some ⟨w1.heap.size, 0, none⟩) p p] ∧ ORow (wr.setCell ⟨w1.heap.size, k, none⟩ (.int .i64 (k : Int))) w1.heap.size (xs.set k k) ∧ (xs.set k (k : Int)).length = p ∧ ∀ j, j < k + 1 → (xs.set k (k : Int))[j]?.getD 0 = (j : Int) := by
    refine ⟨x1.setCell (p := ⟨w1.heap.size, k, none⟩) (Nat.le_refl _) _, x2.far (by simp) _, x3.set k k, by simpa using x4, fun j hj => ?_⟩
    by_cases hjk : j = k
    ·rw [hjk, List.getElem?_set_self (by omega)]; rfl
    ·rw [List.getElem?_set_ne (Ne.symm hjk)]; exact x5 j (by omega)
   have HR := Lib.hid hR
   have x4 := Lib.hid x4
   have x5 := Lib.hid x5
   clear hX hR x1 x2 x3
   go_wp2
   go_roundw
   case rel => exact ⟨k + 1, xs.set k k, by omega, by go_num, HR.out⟩
   case measure => simp [intOf]; omega
  ·obtain rfl : k = p := by omega
   obtain ⟨x1, x2, x3, x4, x5⟩ := hX.out
   have x5 := Lib.hid x5
   clear hX
   have hz1 : w1.heap.size + 1 < wr.heap.size := x2.lt
   have hlA := (x1.cell (p := ⟨w.heap.size, 0, none⟩) hB0.lt).trans (hB0.cell 0)
   have y1 := x2.cell 0
   have hs0 : w.heap.size < w1.heap.size := hB0.lt
   have SS := Lib.hid (fun (W : World) (hW : W = wr) => sort_order w1.heap.size k (w1.heap.size + 1) w.heap.size c k A (spF us) wr (by omega) (fun t ht => ⟨by rw [x3.cell (by omega), x5.out t ht], x3.frozen t⟩) (by omega) (x2.cell 0) hz1 (by omega)
    hlA (by omega) (by omega) (fun hn0 => by
     obtain ⟨b, o, hA, hb, hcell⟩ := HX.out.2 hn0
     refine ⟨b, o, hA, by omega, by omega, fun t ht => ?_⟩
     obtain ⟨A', n', c', ⟨_, _, _, _, _, _, _, h7, _⟩, _⟩ := hcell t ht
     rw [x1.cell (p := ⟨b, o + t * 9 + 7, none⟩) (show b < w1.heap.size by omega), hBW.cell (p := ⟨b, o + t * 9 + 7, none⟩) hb]
     exact h7))
   have x4 := Lib.hid x4
   have x3 := Lib.hid x3
   have hnx : w1.heap.size < wr.heap.size := by omega
   go_wp2_with fail
   refine (SS.out wr rfl).mono ?_
   rintro e w2 ⟨rfl, ord, hord, hcl, hgb⟩
   have hBk0 : Blk w2 w.heap.size 22 #[.slice A k c] := (hgb.block _ (by omega) (by simp; omega)).trans ((x1.block _ hB0.lt).trans hB0)
   have hBk1 : Blk w2 (w.heap.size + 1) 31 #[.bool false, .slice none 0 0, .bool false, .slice none 0 0] := (hgb.block _ (by have := hB1.lt; omega) (by have := hB1.lt; simp; omega)).trans ((x1.block _ hB1.lt).trans hB1)
   have hBk2 : Blk w2 (w1.heap.size + 1) 66 #[.slice (some ⟨w1.heap.size, 0, none⟩) k k] := (hgb.block _ (by omega) (by simp)).trans x2
   have hBr := hBW.trans (x1.mono hBW.size)
   have hBw : Below w.heap.size w w2 := ⟨hgb.os.trans hBr.os, hgb.tape.trans hBr.tape, hgb.output.trans hBr.output, Nat.le_trans hBr.size hgb.size, fun j hj => (hgb.block j (by omega) (by simp; omega)).trans (hBr.block j hj)⟩
   have hs1 : w.heap.size + 1 < w1.heap.size := hB1.lt
   have hs2 : w1.heap.size + 1 < w2.heap.size := hBk2.lt
   have hmq := HMQ.out
   have FI := Lib.hid (fun W => qfromInt64_any need W (by omega) (by omega))
   have hlA := hBk0.cell 0
   have hlO := hBk2.cell 0
   have hlA' := (hBk0.alloc (.cells (madeCells qzero (k * 4)) 31)).cell 0
   have hlO' := (hBk2.alloc (.cells (madeCells qzero (k * 4)) 31)).cell 0
   have hcl := Lib.hid hcl
   have hord := Lib.hid hord
   clear hgb hBr x1 x2 y1 hB1 hBW SS hz1 hnx
   go_wp2_with fail
   refine (FI.out _).mono ?_
   rintro e w3 ⟨A3, k3, c3, A4, k4, c4, rfl, hk3, hk4, hW3, hW4, hF3, hF4, hb3⟩
   have hrow := (QRow.start w2 k).below hb3
   have hb23 : Below w2.heap.size w2 w3 := ((Below.refl _ w2).alloc (Nat.le_refl _) _).trans (hb3.mono (by simp))
   have hz3 : w2.heap.size < w3.heap.size := by obtain ⟨_, cs, hbk, _⟩ := hrow; exact hbk.lt
   have hlO := (hBk2.below hb23 hBk2.lt).cell 0
   have hne3 : w1.heap.size + 1 < w3.heap.size := by omega
   have hRb := Blk.new w3 31 #[.bool (decide (need < 0)), .slice A3 k3 c3, .bool false, .slice A4 k4 c4]
   have hst : Below w2.heap.size w2 (w3.alloc (.cells #[.bool (decide (need < 0)), .slice A3 k3 c3, .bool false, .slice A4 k4 c4] 31)) := hb23.alloc hb23.size _
   have hrq : RQ (w3.alloc (.cells #[.bool (decide (need < 0)), .slice A3 k3 c3, .bool false, .slice A4 k4 c4] 31)) (need : Rat) A3 k3 c3 A4 k4 c4 := RQ.below ⟨hk3, hk4, hW3, hW4⟩ ((Below.refl _ _).alloc (Nat.le_refl _) _)
   have hrw := hrow.below ((Below.refl w3.heap.size w3).alloc (Nat.le_refl _) (.cells #[.bool (decide (need < 0)), .slice A3 k3 c3, .bool false, .slice A4 k4 c4] 31))
   have hszW : w3.heap.size < (w3.alloc (.cells #[.bool (decide (need < 0)), .slice A3 k3 c3, .bool false, .slice A4 k4 c4] 31)).heap.size := by simp
   have hfr1 := (((FrRow.start w.heap.size w2 k).below hb3).below ((Below.refl w3.heap.size w3).alloc (Nat.le_refl _) (.cells #[.bool (decide (need < 0)), .slice A3 k3 c3, .bool false, .slice A4 k4 c4] 31)))
   have hsw3 : w.heap.size ≤ w2.heap.size := by omega
   have hl3 := RQ.lens (s := 3) ⟨hk3, hk4, hW3, hW4⟩ (ls_int (Nat.le_refl _) (by omega))
   have hfr2 : FrRow w.heap.size (w3.alloc (.cells #[.bool (decide (need < 0)), .slice A3 k3 c3, .bool false, .slice A4 k4 c4] 31)) w3.heap.size 1 := fr_one hk3 hk4 (Wr.new hF3 hW3 (by rw [World.size_alloc]; omega) (Nat.le_refl _) (by omega)) (Wr.new hF4 hW4 (by rw [World.size_alloc]; omega) (Nat.le_refl _) (by omega))
   have HFR := Lib.hid (And.intro hfr1 hfr2)
   have HRB := Lib.hid hRb
   have HST := Lib.hid hst
   have HRQ := Lib.hid hrq
   have HRW := Lib.hid hrw
   clear hlA hlA' hlO' hb3 hmq hk3 hk4 hW3 hW4 hF3 hF4 hrow hb23 hRb hst hrq hrw hfr1 hfr2 hl3 HMK HMQ FI HL hB0
   go_wp2_with fail
   generalize hW0 : w3.alloc (.cells #[.bool (decide (need < 0)), .slice A3 k3 c3, .bool false, .slice A4 k4 c4] 31) = W0 at *
   have HW0 := Lib.hid hW0
   clear hW0
   have hlen : ord.length = k := by have := hord.out.1.length_eq; simpa using this
   have HST2 := Lib.hid (show FiR K k w3.heap.size w2.heap.size W0 0 (List.replicate k 0) (need : Rat) W0 from ⟨Rk2.refl, ⟨A3, k3, c3, A4, k4, c4, HRB.out, HRQ.out⟩, HRW.out, lv_int _ (by omega), fun j hj => by rw [show ((List.replicate k (0 : Rat))[j]?.getD 0) = ((0 : Int) : Rat) by simp [hj]]; exact lv_int _ (by decide)⟩)
   have hs3 : w2.heap.size < W0.heap.size := by omega
   have HLN := Lib.hid hlen
   have HXL := Lib.hid HX.out.1
   clear HRB HRQ HRW hlen hlO
   go_loopw [9, 52] (fun t9 t wr => ∃ (i : Nat) (tk : List Rat) (rest : Rat) (price : Int), i ≤ k ∧ t = .int .i64 i ∧ t9 = .int .i64 price ∧ Hid (FiS us bs qs need ord i = ⟨tk, rest, price⟩ ∧ FiR K k w3.heap.size w2.heap.size W0 i tk rest wr ∧ FrRow w.heap.size wr w2.heap.size k ∧ FrRow w.heap.size wr w3.heap.size 1)) (fun _ t _ => k - (intOf t).toNat)
   case atStart => exact ⟨0, List.replicate k 0, (need : Rat), 0, Nat.zero_le _, rfl, rfl, Lib.hid ⟨by unfold FiS; rw [HXL.out]; rfl, by have h9 := HST2.out; rw [← HW0.out] at h9 ⊢; exact h9, by have h9 := HFR.out; rw [← HW0.out] at h9; exact h9⟩⟩
   case round =>
    clear HST2
    obtain ⟨i, tk, rest, price, hi, rfl, rfl, hX⟩ := hrel
    by_cases hlt : i < k
    ·obtain ⟨xs0, ⟨x1, ⟨A5, k5, c5, A6, k6, c6, x2, x3⟩, x4, x5, x6⟩, yy1, yy2⟩ := hX.out
     have Y1 := Lib.hid yy1
     have Y2 := Lib.hid yy2
     clear yy1 yy2
     have hnx := fis_next (us := us) (bs := bs) (qs := qs) (need := need) (ord := ord) (i := i) (by rw [HLN.out]; exact hlt)
     rw [xs0] at hnx
     have hu : ord[i]?.getD 0 < k := by
      rw [List.getElem?_eq_getElem (by rw [HLN.out]; exact hlt)]
      exact List.mem_range.1 (hord.out.1.subset (List.getElem_mem _))
     have fo := ((x1.cell (p := ⟨w1.heap.size, i, none⟩) (show w1.heap.size < W0.heap.size by omega) (show w1.heap.size ≠ w3.heap.size by omega) (show w1.heap.size ≠ w2.heap.size by omega)).trans (HST.out.cell (p := ⟨w1.heap.size, i, none⟩) (show w1.heap.size < w2.heap.size by omega))).trans (hcl.out i hlt)
     have hBW0 : Below w.heap.size w W0 := hBw.trans (HST.out.mono (by omega))
     have hB : Below w.heap.size w wr := x1.below hBW0 (by omega) (by omega) (by omega)
     have hBu : Blk wr w.heap.size 22 #[.slice A k c] := x1.blk ((HST.out.block _ (by omega)).trans hBk0) (by omega) (by omega)
     generalize ord[i]?.getD 0 = u at *
     obtain ⟨b, o, rfl, hb, hcell⟩ := HX.out.2 (by omega)
     obtain ⟨b', o', rfl, hb', hcell'⟩ := HY.out.2 (by omega)
     obtain ⟨b2, o2, rfl, hb2, hcell2⟩ := HG.out.2 (by omega)
     have hun := (hcell u hu).below hb hB
     have hon := (hB.cell (p := ⟨b', o' + u, none⟩) hb').trans (hcell' u hu)
     obtain ⟨an, aA, ak, ac, an', aA', ak', ac', g1, g2, g3, g4, hq⟩ := hcell2 u hu
     have f10 := (hB.cell (p := ⟨b2, o2 + u * 4, none⟩) hb2).trans g1
     have f11 := (hB.cell (p := ⟨b2, o2 + u * 4 + 1, none⟩) hb2).trans g2
     have f12 := (hB.cell (p := ⟨b2, o2 + u * 4 + 2, none⟩) hb2).trans g3
     have f13 := (hB.cell (p := ⟨b2, o2 + u * 4 + 3, none⟩) hb2).trans g4
     have hq := hq.below hB
     have f0 := hBu.cell 0
     obtain ⟨mv1, mv2⟩ := HMV.out u hu (bs[u]?.getD false)
     have hon1 : onF bs u = bs[u]?.getD false := rfl
     have hrm1 : rmF us bs qs u = (mostV (bs[u]?.getD false) (us[u]?.getD U0) : Rat) - qs[u]?.getD 0 := rfl
     have hsp1 : spF us u = (us[u]?.getD U0).spin := rfl
     unfold Rv.rstep at hnx
     rw [hon1, hrm1, hsp1] at hnx
     clear hon1 hrm1 hsp1 g1 g2 g3 g4
     generalize bs[u]?.getD false = bk at *
     generalize us[u]?.getD U0 = un at *
     generalize qs[u]?.getD 0 = q at *
     obtain ⟨bus, mn, st, up, dn, start, idle, spin, on⟩ := un
     obtain ⟨A', n', c', ⟨f1, f2, f3, f4, f5, f6, f7, f8, f9⟩, hs, hn'⟩ := hun
     simp only at f1 f2 f3 f4 f5 f6 f7 f8 f9 hs hnx
     have hki : (0 : Int) ≤ (i : Int) ∧ (i : Int) < (k : Int) := by omega
     have huk : (0 : Int) ≤ (u : Int) ∧ (u : Int) < (k : Int) := by omega
     obtain ⟨hki1, hki2⟩ := hki
     obtain ⟨huk1, huk2⟩ := huk
     have hlB : w.heap.size < wr.heap.size := hBu.lt
     have hbr : b < wr.heap.size := Nat.lt_of_lt_of_le hb hB.size
     have hbr' : b' < wr.heap.size := Nat.lt_of_lt_of_le hb' hB.size
     have hbr2 : b2 < wr.heap.size := Nat.lt_of_lt_of_le hb2 hB.size
     have HNX := Lib.hid hnx
     have X1 := Lib.hid x1
     have X3 := Lib.hid x3
     have X4 := Lib.hid x4
     have X5 := Lib.hid x5
     have X6 := Lib.hid x6
     have X2 := Lib.hid x2
     have HB := Lib.hid hB
     have F8 := Lib.hid (And.intro hb ((HB.out.cell (p := ⟨b, o + u * 9 + 7, none⟩) hb).symm.trans f8))
     have HBW0 := Lib.hid hBW0
     clear hBW0
     clear hX xs0 hnx x1 x3 x4 x5 x6 hB hcell hcell' hcell2 hb hb' hb2
     cases bk
     ·simp only [Bool.false_eq_true, if_false] at HNX
      clear hBu x2 f0 f1 f2 f3 f4 f5 f6 f7 f8 f9 f10 f11 f12 f13 hq hs
      go_wp2
      go_roundw
      case rel => exact ⟨i + 1, tk, rest, price, by omega, by go_num, rfl, Lib.hid ⟨HNX.out, ⟨X1.out, ⟨A5, k5, c5, A6, k6, c6, X2.out, X3.out⟩, X4.out, X5.out.mono (by omega), fun j hj => (X6.out j hj).mono (by omega)⟩, Y1.out, Y2.out⟩⟩
      case measure => simp [intOf]; omega
     ·simp only [if_true] at HNX
      simp only [mostV, if_true] at mv1 mv2 HNX
      have T := Lib.hid (fun W hW => umax_raw bus mn up dn start idle spin on A' n' c' st W hW hn')
      generalize umax ⟨bus, mn, st, up, dn, start, idle, spin, on⟩ = um at *
      have hlr : Lv (K + 1) ((um : Rat) - q) := (lv_int K (by omega)).sub hq.lv
      have HLR := Lib.hid hlr
      have FI := Lib.hid (fun W => qfromInt64_any um W (by omega) (by omega))
      have HSUB := Lib.hid (fun (W : World) (hW : Kp wr W) (B B' : Option Addr) (k d k' d' : Nat) (h1 : k ≤ d) (h2 : k' ≤ d') (h3 : Wat W B k (digs ((um : Int) : Rat).num.natAbs)) (h4 : Wat W B' k' (denW ((um : Int) : Rat).den)) => sub_k (k := K) (by omega) (wat_qk h1 h2 h3 h4 (lv_int K (by omega)) (by omega)) (hq.below hW))
      have HSS := Lib.hid hs
      clear hlr hq hs
      have s5 := Kp.refl wr
      have hS : ∀ w', Kp wr w' → (w'.cell? ⟨w.heap.size, 0, none⟩ = some (.slice (some ⟨b, o, none⟩) k c) ∧ w'.cell? ⟨b, o + u * 9, none⟩ = some (.int .i64 bus) ∧ w'.cell? ⟨b, o + u * 9 + 1, none⟩ = some (.int .i64 mn) ∧ w'.cell? ⟨b, o + u * 9 + 2, none⟩ = some (.slice A' n' c') ∧ w'.cell? ⟨b, o + u * 9 + 3, none⟩ = some (.int .i64 up) ∧ w'.cell? ⟨b, o + u * 9 + 4, none⟩ = some (.int .i64 dn) ∧ w'.cell? ⟨b, o + u * 9 + 5, none⟩ = some (.int .i64 start) ∧ w'.cell? ⟨b, o + u * 9 + 6, none⟩ = some (.int .i64 idle) ∧ w'.cell? ⟨b, o + u * 9 + 7, none⟩ = some (.int .i64 spin) ∧ w'.cell? ⟨b, o + u * 9 + 8, none⟩ = some (.int .i64 on) ∧ w'.cell? ⟨b2, o2 + u * 4, none⟩ = some (.bool an) ∧ w'.cell? ⟨b2, o2 + u * 4 + 1, none⟩ = some (.slice aA ak ac) ∧ w'.cell? ⟨b2, o2 + u * 4 + 2, none⟩ = some (.bool an') ∧ w'.cell? ⟨b2, o2 + u * 4 + 3, none⟩ = some (.slice aA' ak' ac')) ∧ Kp wr w' := fun w' hk => ⟨⟨(Below.cell hk (p := ⟨w.heap.size, 0, none⟩) hlB).trans f0, (Below.cell hk (p := ⟨b, o + u * 9, none⟩) hbr).trans f1, (Below.cell hk (p := ⟨b, o + u * 9 + 1, none⟩) hbr).trans f2, (Below.cell hk (p := ⟨b, o + u * 9 + 2, none⟩) hbr).trans f3, (Below.cell hk (p := ⟨b, o + u * 9 + 3, none⟩) hbr).trans f4, (Below.cell hk (p := ⟨b, o + u * 9 + 4, none⟩) hbr).trans f5, (Below.cell hk (p := ⟨b, o + u * 9 + 5, none⟩) hbr).trans f6, (Below.cell hk (p := ⟨b, o + u * 9 + 6, none⟩) hbr).trans f7, (Below.cell hk (p := ⟨b, o + u * 9 + 7, none⟩) hbr).trans f8, (Below.cell hk (p := ⟨b, o + u * 9 + 8, none⟩) hbr).trans f9, (Below.cell hk (p := ⟨b2, o2 + u * 4, none⟩) hbr2).trans f10, (Below.cell hk (p := ⟨b2, o2 + u * 4 + 1, none⟩) hbr2).trans f11, (Below.cell hk (p := ⟨b2, o2 + u * 4 + 2, none⟩) hbr2).trans f12, (Below.cell hk (p := ⟨b2, o2 + u * 4 + 3, none⟩) hbr2).trans f13⟩, hk⟩
      have HS := Lib.hid hS
      clear hS x2 f0 f1 f2 f3 f4 f5 f6 f7 f8 f9 f10 f11 f12 f13 hBu
      generalize hqv : ((um : Int) : Rat) = qm at *
      generalize hrmv : qm - q = rm at *
      clear hqv hrmv
      go_upto_region 17 with fail
      go_cut [18, 52] from 52 to 95 (fun s t wx => t = .int .i64 i ∧ ∃ gu B j d B' j' d', s = .pointer (some ⟨gu, 0, none⟩) ∧ Hid (Kp wr wx ∧ wr.heap.size ≤ gu ∧ Blk wx gu 31 #[.bool (decide (rm.num < 0)), .slice B j d, .bool false, .slice B' j' d'] ∧ RQ wx rm B j d B' j' d'))
      case first =>
       go_region_held3 (fun w' => (w'.cell? ⟨w.heap.size, 0, none⟩ = some (.slice (some ⟨b, o, none⟩) k c) ∧ w'.cell? ⟨b, o + u * 9, none⟩ = some (.int .i64 bus) ∧ w'.cell? ⟨b, o + u * 9 + 1, none⟩ = some (.int .i64 mn) ∧ w'.cell? ⟨b, o + u * 9 + 2, none⟩ = some (.slice A' n' c') ∧ w'.cell? ⟨b, o + u * 9 + 3, none⟩ = some (.int .i64 up) ∧ w'.cell? ⟨b, o + u * 9 + 4, none⟩ = some (.int .i64 dn) ∧ w'.cell? ⟨b, o + u * 9 + 5, none⟩ = some (.int .i64 start) ∧ w'.cell? ⟨b, o + u * 9 + 6, none⟩ = some (.int .i64 idle) ∧ w'.cell? ⟨b, o + u * 9 + 7, none⟩ = some (.int .i64 spin) ∧ w'.cell? ⟨b, o + u * 9 + 8, none⟩ = some (.int .i64 on) ∧ w'.cell? ⟨b2, o2 + u * 4, none⟩ = some (.bool an) ∧ w'.cell? ⟨b2, o2 + u * 4 + 1, none⟩ = some (.slice aA ak ac) ∧ w'.cell? ⟨b2, o2 + u * 4 + 2, none⟩ = some (.bool an') ∧ w'.cell? ⟨b2, o2 + u * 4 + 3, none⟩ = some (.slice aA' ak' ac')) ∧ Kp wr w')
        (first | (with_reducible exact HS.out _ (kp_set4 hp6 (by first | exact Nat.le_refl _ | assumption) _ _ _ _)) | (with_reducible refine HS.out _ ?_; with_reducible assumption) | (with_reducible refine HS.out _ (Kp.drew ?_); with_reducible assumption) | (with_reducible refine' HS.out _ (Kp.drew (And.right ?_)); rotate_left; with_reducible assumption) | (with_reducible refine' HS.out _ (Kp.alloc (And.right ?_) _); rotate_left; with_reducible assumption) | (with_reducible refine' HS.out _ (Kp.alloc ?_ _); rotate_left; with_reducible assumption) | (with_reducible refine' HS.out _ (Kp.alloc (Kp.drew ?_) _); rotate_left; with_reducible assumption))
        (first
         | (go_at_call 45; have hk := And.right ‹_ ∧ Kp wr _›; refine (T.out _ (HSS.out.below hk)).mono ?_; rintro e v4 ⟨rfl, hb3⟩; have hp4 := Kp.trans hk hb3; have hle4 : wr.heap.size ≤ v4.heap.size := Below.size hp4; (try have hN4 := Blk.below (Blk.drew (Blk.new wr 31 #[.bool false, .slice none 0 0, .bool false, .slice none 0 0])) hb3 (Nat.lt_of_lt_of_eq (Nat.lt_succ_self _) (World.size_alloc _ _).symm)); clear hk)
         | (go_at_call 29; have hk := And.right ‹_ ∧ Kp wr _›; refine (FI.out _).mono ?_; rintro e v5 ⟨B3, j3, d3, B4, j4, d4, rfl, hj3, hj4, hV3, hV4, hG3, hG4, hb3⟩; have hp5 := Kp.trans hk hb3; have hle5 : wr.heap.size ≤ v5.heap.size := Below.size hp5; (try have hN5 := hN4.below hb3 hN4.lt); (try have hN5 := Blk.below (Blk.new v4 31 #[.bool false, .slice none 0 0, .bool false, .slice none 0 0]) hb3 (Nat.lt_of_lt_of_eq (Nat.lt_succ_self _) (World.size_alloc _ _).symm)); clear hk)
         | (go_at_call 44; have hk := And.right ‹_ ∧ Kp wr _›; refine (HSUB.out _ hk B3 B4 j3 d3 j4 d4 hj3 hj4 (by first | exact hV3 | exact hV3.alloc _) (by first | exact hV4 | exact hV4.alloc _)).mono ?_; rintro e v6 ⟨B5, j5, d5, B6, j6, d6, rfl, hj5, hj6, hV5, hV6, hG5, hG6, hb3⟩; have hp6 := Kp.trans hk hb3; (try have hN6 := hN5.below hb3 hN5.lt); (try have hN6 := Blk.below (Blk.new v5 31 #[.bool false, .slice none 0 0, .bool false, .slice none 0 0]) hb3 (Nat.lt_of_lt_of_eq (Nat.lt_succ_self _) (World.size_alloc _ _).symm)); (try obtain ⟨z0, z1, z2, z3, z4, z5, z6, z7⟩ := hN6.four); clear hk))
       all_goals
        go_wp2_with fail
        go_meet
        first
         | exact ⟨rfl, _, B5, j5, d5, B6, j6, d6, rfl, Lib.hid ⟨kp_set4 hp6 (by first | exact Nat.le_refl _ | assumption) _ _ _ _, by first | exact Nat.le_refl _ | assumption, hN6.put4 (o := 0), RQ.put4 (o := 0) ⟨hj5, hj6, hV5, hV6⟩ hN6 NoInt.four⟩⟩
         | exact ⟨rfl, _, B5, j5, d5, B6, j6, d6, rfl, Lib.hid ⟨Kp.alloc hp6 _, Below.size hp6, Blk.new v6 _ _, RQ.below ⟨hj5, hj6, hV5, hV6⟩ ((Below.refl _ _).alloc (Nat.le_refl _) _)⟩⟩
      case rest =>
       obtain ⟨rfl, gu, B1, j1, d1, B2, j2, d2, rfl, HV⟩ := hcut
       generalize wc = V at *
       obtain ⟨v1, v2, v3, v4⟩ := HV.out
       have hx2 : Blk V w3.heap.size _ _ := Kp.blk v1 X2.out
       obtain ⟨r0, r1, r2, r3, -⟩ := hx2.four
       obtain ⟨q0, q1, q2, q3, -⟩ := v3.four
       have hlt := Lv.mn (HLR.out.mono (show K + 1 ≤ K + 1 + i by omega)) X5.out
       have hMIN := min_k (k := K + 1 + i) (by omega) (v4.qk (HLR.out.mono (show K + 1 ≤ K + 1 + i by omega)) (by omega)) ((X3.out.below v1).qk X5.out (by omega))
       have hmn : (if rest < rm then rest else rm) = Rv.mn rm rest := rfl
       rw [hmn] at hlt hMIN
       clear hmn
       generalize Rv.mn rm rest = t at *
       have HLT := Lib.hid hlt
       have HMIN := Lib.hid hMIN
       have V3 := Lib.hid v3
       have V4 := Lib.hid v4
       have VR := Lib.hid (X4.out.below v1)
       have V1 := Lib.hid v1
       have VX := Lib.hid hx2
       clear hlt hMIN v1 v2 v3 v4 hx2 HV HSUB FI T HS HSS s5 X2 X4
       go_wp2_with fail
       refine HMIN.out.mono ?_
       rintro e v5 ⟨B5, j5, e5, B6, j6, e6, rfl, hj5, hj6, hV5, hV6, hG5, hG6, hb3⟩
       have hrow5 := VR.out.below hb3
       have hp5 : Kp wr v5 := Kp.trans V1.out hb3
       have hRk5 := X1.out.call hp5
       have hx5 := VX.out.below hb3 VX.out.lt
       have hr5 := (X3.out.below hp5)
       obtain ⟨_, _, _, _, _, _, i0, i1, i2, i3, i4, i5, i6, i7, -⟩ := hrow5.cells hu
       have hgV : w2.heap.size < V.heap.size := Nat.lt_of_lt_of_le Y1.out.lt (Below.size V1.out)
       obtain ⟨hn5, hn6⟩ := RQ.lens (s := 7 * 3 ^ (K + 1 + i)) ⟨hj5, hj6, hV5, hV6⟩ HLT.out
       have hw5 : Wr w.heap.size w2.heap.size v5 B5 j5 := Wr.of hG5 hV5 (by omega) hgV (three_len (by omega) (by omega) hn5)
       have hw6 : Wr w.heap.size w2.heap.size v5 B6 j6 := Wr.of hG6 hV6 (by omega) hgV (three_len (by omega) (by omega) hn6)
       have HY := Lib.hid (And.intro ((Y1.out.below hp5).put (a := decide (t.num < 0)) (b := false) hu hj5 hj6 hw5 hw6) (Y2.out.below hp5))
       have H5 := Lib.hid (And.intro hrow5 (And.intro hRk5 (And.intro hx5 hr5)))
       clear hgV hn5 hn6 hw5 hw6
       clear hrow5 hp5 hRk5 hx5 hr5 hb3 r0 r1 r2 r3 q0 q1 q2 q3
       go_upto_region 19 with fail
       have e7 : (((v5.setCell ⟨w2.heap.size, u * 4, none⟩ (.bool (decide (t.num < 0)))).setCell ⟨w2.heap.size, u * 4 + 1, none⟩ (.slice B5 j5 e5)).setCell ⟨w2.heap.size, u * 4 + 2, none⟩ (.bool false)).setCell ⟨w2.heap.size, u * 4 + 3, none⟩ (.slice B6 j6 e6) = qst v5 w2.heap.size (u * 4) (decide (t.num < 0)) false B5 B6 j5 e5 j6 e6 := rfl
       rw [e7]
       obtain ⟨hrow5, hRk5, hx5, hr5⟩ := H5.out
       have hRow7 := hrow5.put hu hj5 hj6 hV5 hV6
       obtain ⟨hlen5, cs5, hbk5, hni5, -⟩ := hrow5
       obtain ⟨hY1, hY2⟩ := HY.out
       have hY2 := hY2.far4 (g' := w2.heap.size) (o := u * 4) (a := decide (t.num < 0)) (b := false) (A := B5) (A' := B6) (k := j5) (c := e5) (k' := j6) (c' := e6) (by omega)
       clear HY Y1 Y2
       have hx7 : Blk (qst v5 w2.heap.size (u * 4) (decide (t.num < 0)) false B5 B6 j5 e5 j6 e6) w3.heap.size _ _ := hx5.far4 (by omega)
       have hr7 := hr5.put4 (o := u * 4) (a := decide (t.num < 0)) (b := false) (B := B5) (B' := B6) (j := j5) (d := e5) (j' := j6) (d' := e6) hbk5 hni5
       have hRk7 : Rk2 w3.heap.size w2.heap.size W0 (qst v5 w2.heap.size (u * 4) (decide (t.num < 0)) false B5 B6 j5 e5 j6 e6) := hRk5.put (Or.inr (Or.inl rfl))
       generalize qst v5 w2.heap.size (u * 4) (decide (t.num < 0)) false B5 B6 j5 e5 j6 e6 = W7 at *
       have hlk7 : ∀ j, j < k → Lv (K + 1 + i) ((tk.set u t)[j]?.getD 0) := by
        intro j hj
        by_cases hju : j = u
        ·subst hju
         rw [List.getElem?_set_self (by omega)]
         exact HLT.out
        ·rw [List.getElem?_set_ne (Ne.symm hju)]; exact X6.out j hj
       have epk : (tk.set u t)[u]?.getD 0 = t := by rw [List.getElem?_set_self (by omega)]; rfl
       generalize tk.set u t = tk7 at *
       obtain ⟨A8, k8, c8, A9, k9, c9, j0, j1', j2', j3', -, -, -, -, hk8, hk9, hW8, hW9⟩ := hRow7.cells hu
       rw [epk] at j0 hW8 hW9
       have SG := Lib.hid (fun (W : World) (h : RQ W t A8 k8 c8 A9 k9 c9) => sign_k (h.qk HLT.out (by omega)))
       have HSUB := Lib.hid (sub_k (k := K + 1 + i) (by omega) (RQ.qk hr7 X5.out (by omega)) (RQ.qk ⟨hk8, hk9, hW8, hW9⟩ HLT.out (by omega)))
       have HSUB := Lib.hid (fun (W : World) (hW : Kp W7 W) => sub_k (k := K + 1 + i) (by omega) (RQ.qk (hr7.below hW) X5.out (by omega)) (RQ.qk (RQ.below ⟨hk8, hk9, hW8, hW9⟩ hW) HLT.out (by omega)))
       have HLS := Lib.hid (X5.out.sub HLT.out)
       have hRow7 := Lib.hid hRow7
       have hRk7 := Lib.hid hRk7
       have hr7 := Lib.hid hr7
       have hlk7 := Lib.hid hlk7
       have hT7 : Hid (RQ W7 t A8 k8 c8 A9 k9 c9) := Lib.hid ⟨hk8, hk9, hW8, hW9⟩
       obtain ⟨x0, x1, x2, x3, y0, y1, y2, y3⟩ := hx7.four
       have s5 := Kp.refl W7
       have hx7 := Lib.hid hx7
       have HY7 := Lib.hid (And.intro hY1 hY2)
       clear hY1 hY2
       clear e7 H5 hRk5 hx5 hr5 hlen5 hbk5 hni5 hj5 hj6 hV5 hV6 hG5 hG6 i0 i1 i2 i3 i4 i5 i6 i7 hk8 hk9 hW8 hW9
       have EP := Lib.hid epk
       clear epk
       generalize hrs : rest - t = rest' at *
       clear hrs
       go_cut [52] from 52 to 95 (fun s wx => s = .int .i64 i ∧ Hid (FiR K k w3.heap.size w2.heap.size W0 (i + 1) tk7 rest' wx ∧ RQ wx t A8 k8 c8 A9 k9 c9 ∧ FrRow w.heap.size wx w2.heap.size k ∧ FrRow w.heap.size wx w3.heap.size 1))
       case first =>
        go_region_with (first | (go_at_call 44; refine (HSUB.out _ (Kp.drew s5)).mono ?_; rintro e v8 ⟨A5, k5, c5, A6, k6, c6, rfl, hk5, hk6, hW5, hW6, hF5, hF6, hb4⟩; have hp4 : Kp W7 v8 := Kp.trans (Kp.drew s5) hb4; obtain ⟨i0, i1, i2, i3, i4, i5, i6, i7⟩ := (Kp.blk hp4 hx7.out).four; clear hb4))
        all_goals
         have e8 : (((v8.setCell ⟨w3.heap.size, 0, none⟩ (.bool (decide (rest'.num < 0)))).setCell ⟨w3.heap.size, 1, none⟩ (.slice A5 k5 c5)).setCell ⟨w3.heap.size, 2, none⟩ (.bool false)).setCell ⟨w3.heap.size, 3, none⟩ (.slice A6 k6 c6) = qst v8 w3.heap.size 0 (decide (rest'.num < 0)) false A5 A6 k5 c5 k6 c6 := rfl
         rw [e8]
         have hx8 := Kp.blk hp4 hx7.out
         have hfin : FiR K k w3.heap.size w2.heap.size W0 (i + 1) tk7 rest' (qst v8 w3.heap.size 0 (decide (rest'.num < 0)) false A5 A6 k5 c5 k6 c6) :=
          ⟨(hRk7.out.call hp4).put (Or.inl rfl), ⟨A5, k5, c5, A6, k6, c6, hx8.put4, RQ.put4 ⟨hk5, hk6, hW5, hW6⟩ hx8 NoInt.four⟩, (hRow7.out.below hp4).far4 (by omega) hx8 NoInt.four, HLS.out, fun j hj => (hlk7.out j hj).mono (by omega)⟩
         have hft : RQ (qst v8 w3.heap.size 0 (decide (rest'.num < 0)) false A5 A6 k5 c5 k6 c6) t A8 k8 c8 A9 k9 c9 := (hT7.out.below hp4).put4 hx8 NoInt.four
         have hg78 : w3.heap.size < W7.heap.size := HY7.out.2.lt
         obtain ⟨hn5, hn6⟩ := RQ.lens (s := 7 * 3 ^ (K + 1 + i + 1)) ⟨hk5, hk6, hW5, hW6⟩ HLS.out
         have hn9 : 7 * 3 ^ (K + 1 + i + 1) ≤ 1000000000000 := by
          have h1 := three16 (k := K + 1 + i) (by omega)
          rw [Nat.pow_succ]
          omega
         have hw5 : Wr w.heap.size w3.heap.size v8 A5 k5 := Wr.of (F := W7.heap.size) hF5 hW5 (by omega) hg78 (by omega)
         have hw6 : Wr w.heap.size w3.heap.size v8 A6 k6 := Wr.of (F := W7.heap.size) hF6 hW6 (by omega) hg78 (by omega)
         have hfa : FrRow w.heap.size (qst v8 w3.heap.size 0 (decide (rest'.num < 0)) false A5 A6 k5 c5 k6 c6) w2.heap.size k := (HY7.out.1.below hp4).far4 (by omega)
         have hfb : FrRow w.heap.size (qst v8 w3.heap.size 0 (decide (rest'.num < 0)) false A5 A6 k5 c5 k6 c6) w3.heap.size 1 := (HY7.out.2.below hp4).put (i := 0) (by decide) hk5 hk6 hw5 hw6
         have HF := Lib.hid (And.intro hfin (And.intro hft (And.intro hfa hfb)))
         clear hg78 hn5 hn6 hn9 hw5 hw6 hfa hfb
         generalize qst v8 w3.heap.size 0 (decide (rest'.num < 0)) false A5 A6 k5 c5 k6 c6 = W8 at *
         clear e8 hfin hft hx8 hk5 hk6 hW5 hW6 hF5 hF6 i0 i1 i2 i3 i4 i5 i6 i7 hp4
         go_wp2_with fail
         go_meet
         exact ⟨rfl, HF.out⟩
       case rest =>
        obtain ⟨rfl, HV2⟩ := hcut
        generalize wc = V2 at *
        have HFI := Lib.hid HV2.out.1
        have HFJ := Lib.hid HV2.out.2.2
        obtain ⟨hRkV, -, hrowV, -, -⟩ := HV2.out.1
        obtain ⟨D1, m1, n1, D2, m2, n2, p0, p1, p2, p3, -, -, -, -, hm1, hm2, hM1, hM2⟩ := hrowV.cells hu
        rw [EP.out] at p0 hM1 hM2
        have hSG := sign_k (RQ.qk (K := K + 1 + i) ⟨hm1, hm2, hM1, hM2⟩ HLT.out (by omega))
        have hsq := sgn_pos t
        generalize sgnQ t = sq at *
        have SG := Lib.hid hSG
        have hBuV : Blk V2 w.heap.size 22 #[.slice (some ⟨b, o, none⟩) k c] := hRkV.blk ((HST.out.block _ (by omega)).trans hBk0) (by omega) (by omega)
        have hBV : Below w.heap.size w V2 := hRkV.below HBW0.out (by omega) (by omega) (by omega)
        have hsp := (hBV.cell (p := ⟨b, o + u * 9 + 7, none⟩) F8.out.1).trans F8.out.2
        have hbV : b < V2.heap.size := Nat.lt_of_lt_of_le F8.out.1 hBV.size
        have HBUV := Lib.hid hBuV
        clear hRkV hrowV hSG hm1 hm2 hM1 hM2 HV2 hBuV hBV V1 VX V3 V4 VR HLS hRow7 hRk7 hr7 hlk7 hT7 HSUB s5 hx7 x0 x1 x2 x3 y0 y1 y2 y3 j0 j1' j2' j3' HLR X3
        go_wp2_with fail
        refine SG.out.mono ?_
        rintro e v9 ⟨rfl, hb9⟩
        have hsp := (hb9.cell (p := ⟨b, o + u * 9 + 7, none⟩) hbV).trans hsp
        have f0 := (HBUV.out.below hb9 HBUV.out.lt).cell 0
        have HF9 := Lib.hid (HFI.out.call hb9)
        have HG9 := Lib.hid (And.intro (HFJ.out.1.below hb9) (HFJ.out.2.below hb9))
        clear hb9 p0 p1 p2 p3 SG hbV
        cases hpos : decide (0 < t) with
        | true =>
         rw [hpos] at hsq
         have hnx := HNX.out
         rw [if_pos (of_decide_eq_true hpos)] at hnx
         have HNX9 := Lib.hid hnx
         clear hpos hnx
         go_wp2
         go_roundw
         case rel => exact ⟨i + 1, tk7, rest', spin, by omega, by go_num, rfl, Lib.hid ⟨HNX9.out, HF9.out, HG9.out⟩⟩
         case measure => simp [intOf]; omega
        | false =>
         rw [hpos] at hsq
         have hnx := HNX.out
         rw [if_neg (of_decide_eq_false hpos)] at hnx
         have HNX9 := Lib.hid hnx
         clear hpos hnx hsp f0
         go_wp2
         go_roundw
         case rel => exact ⟨i + 1, tk7, rest', price, by omega, by go_num, rfl, Lib.hid ⟨HNX9.out, HF9.out, HG9.out⟩⟩
         case measure => simp [intOf]; omega
    ·obtain rfl : i = k := by omega
     obtain ⟨xs0, ⟨x1, ⟨A5, k5, c5, A6, k6, c6, x2, x3⟩, x4, x5, x6⟩, yy1, yy2⟩ := hX.out
     obtain ⟨ww1, ww2⟩ := yy2.box x2
     have hBW0 : Below w.heap.size w W0 := hBw.trans (HST.out.mono (by omega))
     have hB : Below w.heap.size w wr := x1.below hBW0 (by omega) (by omega) (by omega)
     have hBr1 : Blk wr (w.heap.size + 1) 31 #[.bool false, .slice none 0 0, .bool false, .slice none 0 0] := x1.blk ((HST.out.block _ (by omega)).trans hBk1) (by omega) (by omega)
     obtain ⟨r0, r1, r2, r3, -⟩ := x2.four
     obtain ⟨_, _, _, _, i4, i5, i6, i7⟩ := hBr1.four
     have hfv : fillV us bs qs need ord = ⟨tk, rest, price⟩ := by
      rw [← xs0]
      unfold fillV FiS
      rw [List.take_of_length_le (by rw [HLN.out]; exact Nat.le_refl _)]
     have hres : ∀ w', w' = (qst wr (w.heap.size + 1) 0 (decide (rest.num < 0)) false A5 A6 k5 c5 k6 c6).drew → (∃ cs, Blk w' (w.heap.size + 1) 31 cs ∧ cs = #[.bool (decide (rest.num < 0)), .slice A5 k5 c5, .bool false, .slice A6 k6 c6]) ∧ QRow w' w2.heap.size i tk ∧ RQ w' rest A5 k5 c5 A6 k6 c6 ∧ (FrRow w.heap.size w' w2.heap.size i ∧ Wr w.heap.size w'.heap.size w' A5 k5 ∧ Wr w.heap.size w'.heap.size w' A6 k6) ∧ Below w.heap.size w w' := by
      rintro w' rfl
      have hd := fun W : World => Below.drew (Below.refl W.heap.size W)
      exact ⟨⟨_, (hBr1.put4).below (hd _) (hBr1.put4).lt, rfl⟩, (x4.far4 (by omega) hBr1 NoInt.four).below (hd _), (x3.put4 hBr1 NoInt.four).below (hd _), ⟨(yy1.far4 (by omega)).below (hd _), (Wr.move ww1.qst (Nat.le_refl _)).below (hd _), (Wr.move ww2.qst (Nat.le_refl _)).below (hd _)⟩, Below.drew (below_qst hB (by omega))⟩
     have HRES := Lib.hid hres
     have HFV := Lib.hid hfv
     have HL6 := Lib.hid (fun j (hj : j < i) => (x6 j hj).mono (show K + 1 + i ≤ K + 6 by omega))
     have HL5 := Lib.hid (x5.mono (show K + 1 + i ≤ K + 6 by omega))
     have hs5 : w.heap.size ≤ w2.heap.size := by omega
     clear hX xs0 x1 x2 x3 x4 x5 x6 yy1 yy2 ww1 ww2 hBW0 hB hBr1 hfv hres
     go_wp2_with fail
     go_region_with (fail)
     all_goals
      have e9 : (((wr.setCell ⟨w.heap.size + 1, 0, none⟩ (.bool (decide (rest.num < 0)))).setCell ⟨w.heap.size + 1, 1, none⟩ (.slice A5 k5 c5)).setCell ⟨w.heap.size + 1, 2, none⟩ (.bool false)).setCell ⟨w.heap.size + 1, 3, none⟩ (.slice A6 k6 c6) = qst wr (w.heap.size + 1) 0 (decide (rest.num < 0)) false A5 A6 k5 c5 k6 c6 := rfl
      rw [e9]
      obtain ⟨⟨cs, hcs, rfl⟩, hq1, hq2, hq4, hq3⟩ := HRES.out _ rfl
      generalize (qst wr (w.heap.size + 1) 0 (decide (rest.num < 0)) false A5 A6 k5 c5 k6 c6).drew = W9 at *
      obtain ⟨d0, d1, d2, d3, -, -, -, -⟩ := hcs.four
      have HF := Lib.hid (And.intro hq1 (And.intro hq2 (And.intro hq4 hq3)))
      clear e9 hcs hq1 hq2 hq3 hq4 HRES i4 i5 i6 i7 r0 r1 r2 r3
      go_wp2
      refine bodyPost_ret (v := .tuple #[.slice (some ⟨w2.heap.size, 0, none⟩) i i, .int .i64 price, .agg #[.bool (decide (rest.num < 0)), .slice A5 k5 c5, .bool false, .slice A6 k6 c6], .int .i64 0]) ?_ rfl ?_
      ·simp [results, Tryz.results13, go_sem, d0, d1, d2, d3]
      ·refine ⟨ord, w2.heap.size, A5, k5, c5, A6, k6, c6, hord.out, ?_, ?_, ?_, hs5, HF.out.2.2.1.1, HF.out.2.2.1.2.1, HF.out.2.2.1.2.2, ?_, ?_, HF.out.2.2.2⟩
       ·rw [HFV.out]
       ·rw [HFV.out]; exact HF.out.1
       ·rw [HFV.out]; exact HF.out.2.1
       ·rw [HFV.out]; exact HL6.out
       ·rw [HFV.out]; exact HL5.out

end Go.Proofs.YtodkhjihkkmplaaGreat

namespace Go.Proofs.YtodkhjihkkmplaaGreat
set_option linter.unusedVariables false
set_option linter.unusedSimpArgs false
open Go.RowKit
open Wd

theorem fill_ok (K : Nat) (hK : K ≤ 11) (A B C : Option Addr) (n c m d p pc : Nat) (us : List Un) (bs : List Bool) (qs : List Rat) (need : Int) (w : World) (h : UsAt w A n us) (h' : BsAt w B m bs) (hg : GsAt K w C p qs) (hm : n ≤ 1000000000000) (hm' : m ≤ 1000000000000) (hp : p ≤ 1000000000000) (hr : rchk us bs qs need = 0) :
  Calls Tryz.prog 13 #[.slice A n c, .slice B m d, .slice C p pc, .int .i64 need] w (FillP K n us bs qs need w) :=
 (fill_fr K hK A B C n c m d p pc us bs qs need w h h' hg hm hm' hp hr).mono fun e w' ⟨ord, g, A1, k1, c1, A2, k2, c2, ho, he, h1, h2, h3, _, _, _, h4, h5, h6⟩ => ⟨ord, g, A1, k1, c1, A2, k2, c2, ho, he, h1, h2, h3, h4, h5, h6⟩

end Go.Proofs.YtodkhjihkkmplaaGreat
