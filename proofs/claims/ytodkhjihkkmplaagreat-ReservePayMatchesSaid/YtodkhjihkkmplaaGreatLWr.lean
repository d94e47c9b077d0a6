/-
Words that may be overwritten: rows of rationals whose words lie apart. spoil of layer 30's statements: words of results are overwritten. No statement of the seat is proved here; no conditions beyond those of each theorem.
-/
import Derived.Test.YtodkhjihkkmplaaGreatLRb9
namespace Go.Proofs.YtodkhjihkkmplaaGreat
set_option linter.unusedVariables false
set_option linter.unusedSimpArgs false
open Go.RowKit
open Wd

/-- The k words at A lie from block base on, not in block g, and may be written. -/
def Wr (base g : Nat) (w : World) (A : Option Addr) (k : Nat) : Prop := k ≤ 1000000000000 ∧ (k ≠ 0 → ∃ b o, A = some ⟨b, o, none⟩ ∧ base ≤ b ∧ b ≠ g ∧ b < w.heap.size ∧ ∀ j, j < k → (∃ v, w.cell? ⟨b, o + j, none⟩ = some v) ∧ w.frozen? ⟨b, o + j, none⟩ = false)
section
variable {base g k c k' c' : Nat} {w w' : World} {A A' B B' : Option Addr} {l : List Nat} {a b : Bool}
theorem Wr.nil : Wr base g w A 0 := ⟨by decide, fun h => absurd rfl h⟩
theorem Wr.below (h : Wr base g w A k) (hb : Below w.heap.size w w') : Wr base g w' A k := by
  refine ⟨h.1, fun hk => ?_⟩
  obtain ⟨b, o, rfl, h1, h2, h3, h4⟩ := h.2 hk
  exact ⟨b, o, rfl, h1, h2, Nat.lt_of_lt_of_le h3 hb.size, fun j hj => ⟨(h4 j hj).1.imp fun v hv => (hb.cell (p := ⟨b, o + j, none⟩) h3).trans hv, (hb.frozen (p := ⟨b, o + j, none⟩) h3).trans (h4 j hj).2⟩⟩
theorem Wr.set (h : Wr base g w A k) (p : Addr) (v : Value) : Wr base g (w.setCell p v) A k := by
  refine ⟨h.1, fun hk => ?_⟩
  obtain ⟨b, o, rfl, h1, h2, h3, h4⟩ := h.2 hk
  exact ⟨b, o, rfl, h1, h2, by simpa [World.setCell] using h3, fun j hj => ⟨by obtain ⟨u, hu⟩ := (h4 j hj).1; exact cell?_setCell_some hu, by rw [World.frozen?_setCell]; exact (h4 j hj).2⟩⟩
theorem Wr.qst {g' o : Nat} {j d j' d' : Nat} (h : Wr base g w A k) : Wr base g (qst w g' o a b B B' j d j' d') A k := (((h.set _ _).set _ _).set _ _).set _ _
theorem Wr.of {F : Nat} (hF : Fresh F w A k) (hW : Wat w A k l) (h1 : base ≤ F) (h2 : g < F) (h0 : k ≤ 1000000000000) : Wr base g w A k := by
  refine ⟨h0, fun hk => ?_⟩
  obtain ⟨b, o, rfl, h3, h4⟩ := hF hk
  obtain ⟨b', o', he, h5, h6⟩ := hW.2.2 hk
  cases he
  exact ⟨b, o, rfl, by omega, by omega, h5, fun j hj => ⟨⟨_, h6 j hj⟩, h4 j hj⟩⟩
end

theorem RQ.lens {s k c k' c' : Nat} {w : World} {q : Rat} {A A' : Option Addr} (h : RQ w q A k c A' k' c') (hq : Ls s q) : k ≤ s ∧ k' ≤ s := by
  obtain ⟨-, -, h1, h2⟩ := h
  constructor
  · rw [← h1.1]
    exact digs_len_le.2 hq.1
  · rw [← h2.1]
    have := digs_len_le.2 hq.2
    unfold denW
    split
    · exact Nat.zero_le _
    · exact this
/-- A row of n rationals in block g, whose words may be overwritten. -/
def FrRow (base : Nat) (w : World) (g n : Nat) : Prop :=
  ∃ cs, Blk w g 31 cs ∧ cs.size = n * 4 ∧ ∀ j, j < n → ∃ a A k c a' A' k' c', cs[j * 4]? = some (.bool a) ∧ cs[j * 4 + 1]? = some (.slice A k c) ∧ cs[j * 4 + 2]? = some (.bool a') ∧ cs[j * 4 + 3]? = some (.slice A' k' c') ∧ k ≤ c ∧ k' ≤ c' ∧ Wr base g w A k ∧ Wr base g w A' k'
section
variable {base g n : Nat} {w w' : World}
theorem FrRow.below (h : FrRow base w g n) (hb : Below w.heap.size w w') : FrRow base w' g n := by
  obtain ⟨cs, h1, h2, h3⟩ := h
  refine ⟨cs, h1.below hb h1.lt, h2, fun j hj => ?_⟩
  obtain ⟨a, A, k, c, a', A', k', c', e1, e2, e3, e4, e5, e6, e7, e8⟩ := h3 j hj
  exact ⟨a, A, k, c, a', A', k', c', e1, e2, e3, e4, e5, e6, e7.below hb, e8.below hb⟩
theorem FrRow.set (h : FrRow base w g n) {p : Addr} (hp : p.block ≠ g) (v : Value) : FrRow base (w.setCell p v) g n := by
  obtain ⟨cs, h1, h2, h3⟩ := h
  refine ⟨cs, h1.far hp.symm v, h2, fun j hj => ?_⟩
  obtain ⟨a, A, k, c, a', A', k', c', e1, e2, e3, e4, e5, e6, e7, e8⟩ := h3 j hj
  exact ⟨a, A, k, c, a', A', k', c', e1, e2, e3, e4, e5, e6, e7.set _ _, e8.set _ _⟩
theorem FrRow.put {i : Nat} {a b : Bool} {A A' : Option Addr} {k c k' c' : Nat} (h : FrRow base w g n) (hi : i < n) (hk : k ≤ c) (hk' : k' ≤ c') (hA : Wr base g w A k) (hA' : Wr base g w A' k') : FrRow base (qst w g (i * 4) a b A A' k c k' c') g n := by
  obtain ⟨cs, h1, h2, h3⟩ := h
  refine ⟨_, h1.put4, by rw [qput_size, h2], fun j hj => ?_⟩
  by_cases hji : j = i
  · subst hji
    obtain ⟨e1, e2, e3, e4⟩ := qput_same (cs := cs) (o := j * 4) (a := a) (b := b) (A := A) (A' := A') (k := k) (c := c) (k' := k') (c' := c') (by omega)
    exact ⟨_, _, _, _, _, _, _, _, e1, e2, e3, e4, hk, hk', hA.qst, hA'.qst⟩
  · obtain ⟨a, A, k, c, a', A', k', c', e1, e2, e3, e4, e5, e6, e7, e8⟩ := h3 j hj
    refine ⟨a, A, k, c, a', A', k', c', ?_, ?_, ?_, ?_, e5, e6, e7.qst, e8.qst⟩
    · rw [qput_other (by omega)]; exact e1
    · rw [qput_other (by omega)]; exact e2
    · rw [qput_other (by omega)]; exact e3
    · rw [qput_other (by omega)]; exact e4
theorem FrRow.far4 {g' o : Nat} {a b : Bool} {A A' : Option Addr} {k c k' c' : Nat} (h : FrRow base w g n) (hg : g' ≠ g) : FrRow base (qst w g' o a b A A' k c k' c') g n :=
  (((h.set (p := ⟨g', o, none⟩) hg _).set (p := ⟨g', o + 1, none⟩) hg _).set (p := ⟨g', o + 2, none⟩) hg _).set (p := ⟨g', o + 3, none⟩) hg _
theorem FrRow.start (base : Nat) (w : World) (n : Nat) : FrRow base (w.alloc (.cells (madeCells qzero (n * 4)) 31)) w.heap.size n := by
  refine ⟨_, Blk.new _ _ _, size_madeCells _ _, fun j hj => ⟨false, none, 0, 0, false, none, 0, 0, ?_, ?_, ?_, ?_, Nat.le_refl _, Nat.le_refl _, Wr.nil, Wr.nil⟩⟩
  · rw [made_get _ _ (by omega), show j * 4 % 4 = 0 by omega]; rfl
  · rw [made_get _ _ (by omega), show (j * 4 + 1) % 4 = 1 by omega]; rfl
  · rw [made_get _ _ (by omega), show (j * 4 + 2) % 4 = 2 by omega]; rfl
  · rw [made_get _ _ (by omega), show (j * 4 + 3) % 4 = 3 by omega]; rfl
theorem FrRow.lt (h : FrRow base w g n) : g < w.heap.size := by obtain ⟨cs, h1, -⟩ := h; exact h1.lt
theorem FrRow.cells (h : FrRow base w g n) {j : Nat} (hj : j < n) : ∃ a A k c a' A' k' c', w.cell? ⟨g, j * 4, none⟩ = some (.bool a) ∧ w.cell? ⟨g, j * 4 + 1, none⟩ = some (.slice A k c) ∧ w.cell? ⟨g, j * 4 + 2, none⟩ = some (.bool a') ∧ w.cell? ⟨g, j * 4 + 3, none⟩ = some (.slice A' k' c') ∧
    w.frozen? ⟨g, j * 4, none⟩ = false ∧ w.frozen? ⟨g, j * 4 + 1, none⟩ = false ∧ w.frozen? ⟨g, j * 4 + 2, none⟩ = false ∧ w.frozen? ⟨g, j * 4 + 3, none⟩ = false ∧ k ≤ c ∧ k' ≤ c' ∧ Wr base g w A k ∧ Wr base g w A' k' := by
  obtain ⟨cs, h1, h2, h3⟩ := h
  obtain ⟨a, A, k, c, a', A', k', c', e1, e2, e3, e4, e5, e6, e7, e8⟩ := h3 j hj
  exact ⟨a, A, k, c, a', A', k', c', (h1.cell _).trans e1, (h1.cell _).trans e2, (h1.cell _).trans e3, (h1.cell _).trans e4, h1.frozen _, h1.frozen _, h1.frozen _, h1.frozen _, e5, e6, e7, e8⟩
end

end Go.Proofs.YtodkhjihkkmplaaGreat

namespace Go.Proofs.YtodkhjihkkmplaaGreat
set_option linter.unusedVariables false
set_option linter.unusedSimpArgs false
open Go.RowKit
open Wd

/-- Words of a row lie below block top. -/
def TopOk (top : Nat) (w : World) (g n : Nat) : Prop := ∀ j, j < n → ∀ A k c, (w.cell? ⟨g, j * 4 + 1, none⟩ = some (.slice A k c) ∨ w.cell? ⟨g, j * 4 + 3, none⟩ = some (.slice A k c)) → k ≠ 0 → ∀ b o, A = some ⟨b, o, none⟩ → b < top
/-- Only blocks from base to top may have turned, and what may be overwritten still may. -/
def Sp (base top : Nat) (w w' : World) : Prop := Below base w w' ∧ w'.heap.size = w.heap.size ∧ (∀ k, top ≤ k → w'.heap[k]? = w.heap[k]?) ∧ ∀ base' g A k, Wr base' g w A k → Wr base' g w' A k
theorem Sp.refl (base top : Nat) (w : World) : Sp base top w w := ⟨Below.refl _ _, rfl, fun _ _ => rfl, fun _ _ _ _ h => h⟩
theorem Sp.set {base top : Nat} {w w' : World} (h : Sp base top w w') {p : Addr} (h1 : base ≤ p.block) (h2 : p.block < top) (v : Value) : Sp base top w (w'.setCell p v) :=
  ⟨h.1.setCell h1 v, (World.size_setCell ..).trans h.2.1, fun k hk => (Below.heap_setCell _ _ _ _ (by omega)).trans (h.2.2.1 k hk), fun b g A k hw => (h.2.2.2 b g A k hw).set _ _⟩
theorem FrRow.top {base g n : Nat} {w : World} (h : FrRow base w g n) : TopOk w.heap.size w g n := by
  intro j hj A k c hc hk b o hA
  obtain ⟨a, A1, k1, c1, a', A2, k2, c2, -, e1, -, e2, -, -, -, -, -, -, e3, e4⟩ := h.cells hj
  rcases hc with hc | hc
  · rw [e1] at hc
    cases hc
    obtain ⟨b', o', e, _, _, hlt, _⟩ := e3.2 hk
    rw [hA] at e
    cases e
    exact hlt
  · rw [e2] at hc
    cases hc
    obtain ⟨b', o', e, _, _, hlt, _⟩ := e4.2 hk
    rw [hA] at e
    cases e
    exact hlt
theorem TopOk.below {top g n : Nat} {w w' : World} (h : TopOk top w g n) (hb : Below w.heap.size w w') (hg : g < w.heap.size) : TopOk top w' g n := fun j hj A k c hc hk b o hA =>
  h j hj A k c (hc.imp (fun h => (hb.cell (p := ⟨g, j * 4 + 1, none⟩) hg).symm.trans h) (fun h => (hb.cell (p := ⟨g, j * 4 + 3, none⟩) hg).symm.trans h)) hk b o hA
theorem TopOk.set {top g n : Nat} {w : World} (h : TopOk top w g n) {p : Addr} (hp : p.block ≠ g) (v : Value) : TopOk top (w.setCell p v) g n := fun j hj A k c hc hk b o hA =>
  h j hj A k c (hc.imp (fun h => (World.cell?_setCell_far _ _ _ _ hp).symm.trans h) (fun h => (World.cell?_setCell_far _ _ _ _ hp).symm.trans h)) hk b o hA
theorem qst_other {w : World} {g o x : Nat} {a b : Bool} {A A' : Option Addr} {k c k' c' : Nat} (h : x < o ∨ o + 3 < x) : (qst w g o a b A A' k c k' c').cell? ⟨g, x, none⟩ = w.cell? ⟨g, x, none⟩ := by
  unfold qst
  have ne : ∀ y, y ≠ x → (⟨g, y, none⟩ : Addr) ≠ ⟨g, x, none⟩ := fun y hy e => hy (by injection e)
  rw [World.cell?_setCell_other _ _ _ _ (ne _ (by omega)), World.cell?_setCell_other _ _ _ _ (ne _ (by omega)), World.cell?_setCell_other _ _ _ _ (ne _ (by omega)), World.cell?_setCell_other _ _ _ _ (ne _ (by omega))]
theorem TopOk.nil {top base g n i : Nat} {w : World} (h : TopOk top w g n) (hr : FrRow base w g n) (hi : i < n) : TopOk top (qst w g (i * 4) false false none none 0 0 0 0) g n := by
  intro j hj A k c hc hk b o hA
  by_cases hji : j = i
  · subst hji
    have hf := hr.put (i := j) (a := false) (b := false) (A := none) (A' := none) hi (Nat.le_refl 0) (Nat.le_refl 0) Wr.nil Wr.nil
    obtain ⟨cs, h1, h2, h3⟩ := hr
    obtain ⟨e1, e2, e3, e4⟩ := qput_same (cs := cs) (o := j * 4) (a := false) (b := false) (A := none) (A' := none) (k := 0) (c := 0) (k' := 0) (c' := 0) (by omega)
    have h1' := h1.put4 (o := j * 4) (a := false) (b := false) (A := none) (A' := none) (k := 0) (c := 0) (k' := 0) (c' := 0)
    rcases hc with hc | hc
    · rw [h1'.cell, e2] at hc
      cases hc
      cases hA
    · rw [h1'.cell, e4] at hc
      cases hc
      cases hA
  · rw [qst_other (by omega), qst_other (by omega)] at hc
    exact h j hj A k c hc hk b o hA
theorem Sp.qst {base top g o : Nat} {w w' : World} {a b : Bool} {A A' : Option Addr} {k c k' c' : Nat} (h : Sp base top w w') (h1 : base ≤ g) (h2 : g < top) : Sp base top w (qst w' g o a b A A' k c k' c') :=
  (((h.set (p := ⟨g, o, none⟩) h1 h2 _).set (p := ⟨g, o + 1, none⟩) h1 h2 _).set (p := ⟨g, o + 2, none⟩) h1 h2 _).set (p := ⟨g, o + 3, none⟩) h1 h2 _

/-- The memory while the words of number i are overwritten. -/
def SpI (base top g n i : Nat) (A : Option Addr) (k c : Nat) (A' : Option Addr) (k' c' : Nat) (w wv : World) : Prop :=
  Sp base top w wv ∧ (FrRow base wv g n ∧ TopOk top wv g n) ∧ wv.cell? ⟨g, i * 4 + 1, none⟩ = some (.slice A k c) ∧ wv.cell? ⟨g, i * 4 + 3, none⟩ = some (.slice A' k' c') ∧ Wr base g wv A k ∧ Wr base g wv A' k'
theorem SpI.put {base top g n i k c k' c' b o : Nat} {A A' : Option Addr} {w wv : World} {v : Value} (h : SpI base top g n i A k c A' k' c' w wv) (h1 : base ≤ b) (h2 : b ≠ g) (h3 : b < top) : SpI base top g n i A k c A' k' c' w (wv.setCell ⟨b, o, none⟩ v) := by
  obtain ⟨y1, y2, y3, y4, y5, y6⟩ := h
  exact ⟨y1.set (p := ⟨b, o, none⟩) h1 h3 v, ⟨y2.1.set (p := ⟨b, o, none⟩) h2 v, y2.2.set (p := ⟨b, o, none⟩) h2 v⟩, (World.cell?_setCell_far _ _ _ _ h2).trans y3, (World.cell?_setCell_far _ _ _ _ h2).trans y4, y5.set _ _, y6.set _ _⟩
set_option maxRecDepth 100000 in
set_option maxHeartbeats 4000000 in
theorem spoil_any (base top g n c0 : Nat) (w : World) (h : FrRow base w g n) (ht : TopOk top w g n) (hg : base ≤ g) (hgt : g < top) (hn : n ≤ 1000000000000) :
    Calls Tryz.prog 16 #[.slice (some ⟨g, 0, none⟩) n c0] w fun e w' => e = .returned (.tuple #[]) ∧ Sp base top w w' := by
  have HR := Lib.hid (And.intro h ht)
  clear h ht
  go_enter Tryz.func16, Tryz.ntmps16
  go_wp2_with fail
  go_loopw [2] (fun t wr => ∃ i : Nat, i ≤ n ∧ t = .int .i64 (i : Int) ∧ Hid (Sp base top w wr ∧ FrRow base wr g n ∧ TopOk top wr g n)) (fun t _ => n - (intOf t).toNat)
  case atStart => exact ⟨0, Nat.zero_le _, rfl, Lib.hid ⟨Sp.refl _ _ _, HR.out⟩⟩
  case round =>
    obtain ⟨i, hi, rfl, hX⟩ := hrel
    by_cases hlt : i < n
    · obtain ⟨x1, x2, x7⟩ := hX.out
      obtain ⟨a, A, k, c, a', A', k', c', -, x3, -, x4, -, -, -, -, -, -, x5, x6⟩ := x2.cells hlt
      have HS := Lib.hid (show SpI base top g n i A k c A' k' c' w wr from ⟨x1, ⟨x2, x7⟩, x3, x4, x5, x6⟩)
      have hki1 : (0 : Int) ≤ (i : Int) := by omega
      have hki2 : (i : Int) < (n : Int) := by omega
      clear hX x1 x2 x3 x4 x5 x6 x7 HR
      go_wp2_with fail
      go_loopw [3] (fun t wv => ∃ j : Nat, j ≤ k ∧ t = .int .i64 (j : Int) ∧ Hid (SpI base top g n i A k c A' k' c' w wv)) (fun t _ => k - (intOf t).toNat)
      case atStart => exact ⟨0, Nat.zero_le _, rfl, HS⟩
      case round =>
        obtain ⟨j, hj, rfl, hY⟩ := hrel
        have hY' := hY.out
        obtain ⟨y1, y2, y3, y4, y5, y6⟩ := hY.out
        have hk9 : k ≤ 1000000000000 := y5.1
        by_cases hjk : j < k
        · obtain ⟨b9, o9, rfl, hb1, hb2, hb3, hb4⟩ := y5.2 (by omega)
          obtain ⟨⟨v9, hv9⟩, hfz⟩ := hb4 j hjk
          have i1 : IntKind.i64.wrap ((j : Int) + 1) = ((j + 1 : Nat) : Int) := IntWalk.i64_in _ (by omega)
          have hj1 : (0 : Int) ≤ (j : Int) := by omega
          have hj2 : (j : Int) < (k : Int) := by omega
          have HN := Lib.hid (SpI.put hY' (o := o9 + j) (v := .int .u32 7) hb1 hb2 (y2.2 i hlt _ _ _ (.inl y3) (by omega) _ _ rfl))
          clear hY hY' y1 y2 y5 y6 hb1 hb2 hb3 hb4
          go_wp2
          go_roundw
          case rel => exact ⟨j + 1, by omega, by first | rfl | go_num, HN⟩
          case measure => simp [intOf]; omega
        · obtain rfl : k = j := by omega
          have HY := Lib.hid hY'
          clear hY hY' y1 y2 y5 y6 hk9 hj
          go_wp2_with fail
          clear y3 y4 hjk
          go_loopw [4] (fun t wv => ∃ l : Nat, l ≤ k' ∧ t = .int .i64 (l : Int) ∧ Hid (SpI base top g n i A k c A' k' c' w wv)) (fun t _ => k' - (intOf t).toNat)
          case atStart => exact ⟨0, Nat.zero_le _, rfl, HY⟩
          case round =>
            obtain ⟨l, hj, rfl, hY⟩ := hrel
            have hY' := hY.out
            obtain ⟨y1, y2, y3, y4, y5, y6⟩ := hY.out
            have hk9 : k' ≤ 1000000000000 := y6.1
            by_cases hjk : l < k'
            · obtain ⟨b9, o9, rfl, hb1, hb2, hb3, hb4⟩ := y6.2 (by omega)
              obtain ⟨⟨v9, hv9⟩, hfz⟩ := hb4 l hjk
              have i1 : IntKind.i64.wrap ((l : Int) + 1) = ((l + 1 : Nat) : Int) := IntWalk.i64_in _ (by omega)
              have hj1 : (0 : Int) ≤ (l : Int) := by omega
              have hj2 : (l : Int) < (k' : Int) := by omega
              have HN := Lib.hid (SpI.put hY' (o := o9 + l) (v := .int .u32 7) hb1 hb2 (y2.2 i hlt _ _ _ (.inr y4) (by omega) _ _ rfl))
              clear hY hY' y1 y2 y5 y6 hb1 hb2 hb3 hb4
              go_wp2
              go_roundw
              case rel => exact ⟨l + 1, by omega, by first | rfl | go_num, HN⟩
              case measure => simp [intOf]; omega
            · obtain rfl : k' = l := by omega
              have HY := Lib.hid hY'
              clear hY hY' y1 y2 y5 y6 hk9 hj
              obtain ⟨z1, ⟨z2, z3⟩, -⟩ := HY.out
              obtain ⟨_, _, _, _, _, _, _, _, e0, -, e2, -, f0, f1, f2, f3, -⟩ := z2.cells hlt
              have i1 : IntKind.i64.wrap ((i : Int) + 1) = ((i + 1 : Nat) : Int) := IntWalk.i64_in _ (by omega)
              have HN := Lib.hid (show ∀ w', w' = qst wr g (i * 4) false false none none 0 0 0 0 → Sp base top w w' ∧ FrRow base w' g n ∧ TopOk top w' g n from fun w' hw => by subst hw; exact ⟨z1.qst hg hgt, z2.put hlt (Nat.le_refl _) (Nat.le_refl _) Wr.nil Wr.nil, z3.nil z2 hlt⟩)
              clear z1 z2 z3 HY
              go_wp2_with fail
              have e8 : (((wr.setCell ⟨g, i * 4, none⟩ (.bool false)).setCell ⟨g, i * 4 + 1, none⟩ (.slice none 0 0)).setCell ⟨g, i * 4 + 2, none⟩ (.bool false)).setCell ⟨g, i * 4 + 3, none⟩ (.slice none 0 0) = qst wr g (i * 4) false false none none 0 0 0 0 := rfl
              try rw [e8]
              have HF := Lib.hid (HN.out _ rfl)
              clear HN
              go_roundw
              case rel => exact ⟨i + 1, by omega, by first | rfl | go_num, HF⟩
              case measure => simp [intOf]; omega
    · obtain rfl : i = n := by omega
      obtain ⟨x1, -⟩ := hX.out
      have HF := Lib.hid x1
      clear hX x1 HR
      go_wp2
      refine bodyPost_end (v := .tuple #[]) ?_ rfl ⟨rfl, HF.out⟩
      simp [results, Tryz.results16]

end Go.Proofs.YtodkhjihkkmplaaGreat
