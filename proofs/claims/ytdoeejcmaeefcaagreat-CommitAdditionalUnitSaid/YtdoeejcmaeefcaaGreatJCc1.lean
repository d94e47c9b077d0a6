/-
Copies of hours and units in blocks of the call's own. No statement of the seat is proved here; no conditions beyond those of each theorem.
-/
import Derived.Test.YtdoeejcmaeefcaaGreatJCa3
namespace Go.Proofs.YtdoeejcmaeefcaaGreat
set_option linter.unusedVariables false
set_option linter.unusedSimpArgs false
open Go.RowKit
open Wd
open Cm

/-- The cells of hours. -/
def HLs (w : World) (hs : List Hr) (L : List Value) : Prop := ∀ j, j < hs.length → ∃ Ab nb cb Ar nr cr, L[j * 3]? = some (.slice Ab nb cb) ∧ L[j * 3 + 1]? = some (.slice Ar nr cr) ∧ L[j * 3 + 2]? = some (.int .i64 (hs[j]?.getD Hr0).need) ∧ BdAt w Ab nb (hs[j]?.getD Hr0).bids
theorem HsAt.src {w : World} {A : Option Addr} {m : Nat} {hs : List Hr} (h : HsAt w A m hs) (hm : m ≠ 0) : ∃ L, HLs w hs L ∧ SrcAt w A m 3 L := by
  obtain ⟨b, o, rfl, hlt, hc⟩ := h.2 hm
  have hml := h.1
  have hall : ∀ q, q < m * 3 → ∃ v : Value, w.cell? ⟨b, o + q, none⟩ = some v ∧ v.oneCell' = true := fun q hq => by
    obtain ⟨Ab, nb, cb, Ar, nr, cr, h1, h2, h3, _⟩ := hc (q / 3) (by omega)
    rcases (show q % 3 = 0 ∨ q % 3 = 1 ∨ q % 3 = 2 by omega) with e | e | e
    · exact ⟨_, by rw [show o + q = o + q / 3 * 3 by omega]; exact h1, rfl⟩
    · exact ⟨_, by rw [show o + q = o + q / 3 * 3 + 1 by omega]; exact h2, rfl⟩
    · exact ⟨_, by rw [show o + q = o + q / 3 * 3 + 2 by omega]; exact h3, rfl⟩
  have hget : ∀ q, q < m * 3 → ((List.range (m * 3)).map fun q => (w.cell? ⟨b, o + q, none⟩).getD (.int .i64 0))[q]? = w.cell? ⟨b, o + q, none⟩ := fun q hq => by
    obtain ⟨v, hv, _⟩ := hall q hq
    simp [hq, hv]
  refine ⟨(List.range (m * 3)).map fun q => (w.cell? ⟨b, o + q, none⟩).getD (.int .i64 0), fun j hj => ?_, by simp, fun u hu => ?_, Or.inr ⟨_, rfl, fun q u hu => ?_⟩⟩
  · obtain ⟨Ab, nb, cb, Ar, nr, cr, h1, h2, h3, h4⟩ := hc j (by omega)
    exact ⟨Ab, nb, cb, Ar, nr, cr, (hget _ (by omega)).trans h1, (hget _ (by omega)).trans h2, (hget _ (by omega)).trans h3, h4⟩
  · obtain ⟨q, hq, rfl⟩ := List.mem_map.1 hu
    obtain ⟨v, hv, h1⟩ := hall q (List.mem_range.1 hq)
    rw [hv]
    exact h1
  · have hq : q < m * 3 := by
      have := (List.getElem?_eq_some_iff.1 hu).1
      simpa using this
    rw [addr_add, ← hget q hq]
    exact hu
theorem HLs.below {w w' : World} {hs : List Hr} {L : List Value} (h : HLs w hs L) (hb : Below w.heap.size w w') : HLs w' hs L := fun j hj => by
  obtain ⟨Ab, nb, cb, Ar, nr, cr, h1, h2, h3, h4⟩ := h j hj
  exact ⟨Ab, nb, cb, Ar, nr, cr, h1, h2, h3, h4.below hb⟩
/-- Hours in a block of the call's own; their bids lie in w0. -/
def HsB (w0 : World) (F : Nat → Hr) (m : Nat) (cur : Array Value) : Prop := m * 3 ≤ cur.size ∧ ∀ j, j < m → ∃ Ab nb cb Ar nr cr, cur[j * 3]? = some (.slice Ab nb cb) ∧ cur[j * 3 + 1]? = some (.slice Ar nr cr) ∧ cur[j * 3 + 2]? = some (.int .i64 (F j).need) ∧ BdAt w0 Ab nb (F j).bids
theorem HsB.of {w0 w' : World} {base m cb : Nat} {B : Option Addr} {hs : List Hr} {L : List Value} (h : Own base 46 3 w' B m cb L) (hl : HLs w0 hs L) (hm : hs.length = m) (h0 : m ≠ 0) : ∃ g cur, B = some ⟨g, 0, none⟩ ∧ base ≤ g ∧ Blk w' g 46 cur ∧ HsB w0 (fun j => hs[j]?.getD Hr0) m cur := by
  rcases h.2 with ⟨_, h6⟩ | ⟨g, cap, cur, h6, hb, h7, hc, _, hs7, ht⟩
  · exact absurd h6 h0
  · simp at h6
    have hget : ∀ q, q < m * 3 → cur[q]? = L[q]? := fun q hq => by
      rw [← ht, List.getElem?_take_of_lt hq, Array.getElem?_toList]
    refine ⟨g, cur, h6.1, hb, h7, ?_, fun j hj => ?_⟩
    · rw [hs7]; exact Nat.mul_le_mul_right 3 hc
    · obtain ⟨Ab, nb, cb, Ar, nr, cr, h1, h2, h3, h4⟩ := hl j (by omega)
      exact ⟨Ab, nb, cb, Ar, nr, cr, (hget _ (by omega)).trans h1, (hget _ (by omega)).trans h2, (hget _ (by omega)).trans h3, h4⟩
theorem HsB.hs {w0 w' : World} {F : Nat → Hr} {m g : Nat} {cur : Array Value} {t : TypeId} (h : HsB w0 F m cur) (hb : Blk w' g t cur) (hw : Below w0.heap.size w0 w') : HsAt w' (some ⟨g, 0, none⟩) m ((List.range m).map F) := by
  refine ⟨by simp, fun _ => ⟨g, 0, rfl, hb.lt, fun j hj => ?_⟩⟩
  obtain ⟨Ab, nb, cb, Ar, nr, cr, h1, h2, h3, h4⟩ := h.2 j hj
  have e : ((List.range m).map F)[j]?.getD Hr0 = F j := by simp [hj]
  rw [e, Nat.zero_add]
  exact ⟨Ab, nb, cb, Ar, nr, cr, (hb.cell _).trans h1, (hb.cell _).trans h2, (hb.cell _).trans h3, h4.below hw⟩
theorem HsB.need {w0 : World} {F : Nat → Hr} {m k : Nat} {cur : Array Value} (h : HsB w0 F m cur) (hk : k < m) (x : Int) : HsB w0 (fun j => if j = k then { F k with need := x } else F j) m (cur.setIfInBounds (k * 3 + 2) (.int .i64 x)) := by
  refine ⟨by simpa using h.1, fun j hj => ?_⟩
  obtain ⟨Ab, nb, cb, Ar, nr, cr, h1, h2, h3, h4⟩ := h.2 j hj
  have hs := h.1
  refine ⟨Ab, nb, cb, Ar, nr, cr, ?_, ?_, ?_, ?_⟩
  · rw [Array.getElem?_setIfInBounds_ne (by omega)]; exact h1
  · rw [Array.getElem?_setIfInBounds_ne (by omega)]; exact h2
  · by_cases e : j = k
    · subst e
      rw [Array.getElem?_setIfInBounds_self, if_pos (by omega)]
      simp
    · rw [Array.getElem?_setIfInBounds_ne (by omega)]; dsimp only; rw [if_neg e]; exact h3
  · by_cases e : j = k
    · subst e; simpa using h4
    · dsimp only; rw [if_neg e]; exact h4
theorem HsB.real {w0 : World} {F : Nat → Hr} {m k : Nat} {cur : Array Value} (h : HsB w0 F m cur) (hk : k < m) (A : Option Addr) (n c : Nat) : HsB w0 F m (cur.setIfInBounds (k * 3 + 1) (.slice A n c)) := by
  refine ⟨by simpa using h.1, fun j hj => ?_⟩
  obtain ⟨Ab, nb, cb, Ar, nr, cr, h1, h2, h3, h4⟩ := h.2 j hj
  have hs := h.1
  by_cases e : j = k
  · subst e
    refine ⟨Ab, nb, cb, A, n, c, ?_, ?_, ?_, h4⟩
    · rw [Array.getElem?_setIfInBounds_ne (by omega)]; exact h1
    · rw [Array.getElem?_setIfInBounds_self, if_pos (by omega)]
    · rw [Array.getElem?_setIfInBounds_ne (by omega)]; exact h3
  · refine ⟨Ab, nb, cb, Ar, nr, cr, ?_, ?_, ?_, h4⟩
    · rw [Array.getElem?_setIfInBounds_ne (by omega)]; exact h1
    · rw [Array.getElem?_setIfInBounds_ne (by omega)]; exact h2
    · rw [Array.getElem?_setIfInBounds_ne (by omega)]; exact h3
theorem HsB.cell {w0 : World} {F : Nat → Hr} {m k i : Nat} {cur : Array Value} (h : HsB w0 F m cur) (hk : k < m) (hi : i < 3) : ∃ v, cur[k * 3 + i]? = some v := ⟨_, Array.getElem?_eq_getElem (by have := h.1; omega)⟩
theorem range_hs {hs : List Hr} {m : Nat} (h : hs.length = m) : (List.range m).map (fun j => hs[j]?.getD Hr0) = hs := by
  apply List.ext_getElem (by simp [h])
  intro i h1 h2
  simp [List.getElem?_eq_getElem h2]

/-- Units in a block of the call's own; their curves lie in w0. -/
def UsB (w0 : World) (F : Nat → Un) (n : Nat) (cur : Array Value) : Prop := n * 9 ≤ cur.size ∧ ∀ j, j < n → ∃ A' n' c', (cur[j * 9]? = some (.int .i64 (F j).bus) ∧ cur[j * 9 + 1]? = some (.int .i64 (F j).mn) ∧ cur[j * 9 + 2]? = some (.slice A' n' c') ∧ cur[j * 9 + 3]? = some (.int .i64 (F j).up) ∧ cur[j * 9 + 4]? = some (.int .i64 (F j).dn) ∧ cur[j * 9 + 5]? = some (.int .i64 (F j).start) ∧ cur[j * 9 + 6]? = some (.int .i64 (F j).idle) ∧ cur[j * 9 + 7]? = some (.int .i64 (F j).spin) ∧ cur[j * 9 + 8]? = some (.int .i64 (F j).on)) ∧ StAt w0 A' n' (F j).st ∧ n' ≤ 1000000000000
theorem UsB.of {w0 w' : World} {base n cb : Nat} {B : Option Addr} {us : List Un} {L : List Value} (h : Own base 39 9 w' B n cb L) (hl : UL w0 us L) (hn : us.length = n) (h0 : n ≠ 0) : ∃ g cur, B = some ⟨g, 0, none⟩ ∧ base ≤ g ∧ Blk w' g 39 cur ∧ UsB w0 (fun j => us[j]?.getD U0) n cur := by
  rcases h.2 with ⟨_, h6⟩ | ⟨g, cap, cur, h6, hb, h7, hc, _, hs7, ht⟩
  · exact absurd h6 h0
  · simp at h6
    have hget : ∀ q, q < n * 9 → cur[q]? = L[q]? := fun q hq => by
      rw [← ht, List.getElem?_take_of_lt hq, Array.getElem?_toList]
    refine ⟨g, cur, h6.1, hb, h7, ?_, fun j hj => ?_⟩
    · rw [hs7]; exact Nat.mul_le_mul_right 9 hc
    · obtain ⟨A', n', c', hg⟩ := hl.get j (by omega)
      obtain ⟨⟨g0, g1, g2, g3, g4, g5, g6, g7, g8⟩, hs, hn'⟩ := hg _ rfl
      exact ⟨A', n', c', ⟨(hget _ (by omega)).trans g0, (hget _ (by omega)).trans g1, (hget _ (by omega)).trans g2, (hget _ (by omega)).trans g3, (hget _ (by omega)).trans g4, (hget _ (by omega)).trans g5, (hget _ (by omega)).trans g6, (hget _ (by omega)).trans g7, (hget _ (by omega)).trans g8⟩, hs, hn'⟩
theorem UsB.us {w0 w' : World} {F : Nat → Un} {n g : Nat} {cur : Array Value} {t : TypeId} (h : UsB w0 F n cur) (hb : Blk w' g t cur) (hw : Below w0.heap.size w0 w') : UsAt w' (some ⟨g, 0, none⟩) n ((List.range n).map F) := by
  refine ⟨by simp, fun _ => ⟨g, 0, rfl, hb.lt, fun j hj => ?_⟩⟩
  obtain ⟨A', n', c', ⟨g0, g1, g2, g3, g4, g5, g6, g7, g8⟩, hs, hn'⟩ := h.2 j hj
  have e : ((List.range n).map F)[j]?.getD U0 = F j := by simp [hj]
  rw [e, Nat.zero_add]
  exact ⟨A', n', c', ⟨(hb.cell _).trans g0, (hb.cell _).trans g1, (hb.cell _).trans g2, (hb.cell _).trans g3, (hb.cell _).trans g4, (hb.cell _).trans g5, (hb.cell _).trans g6, (hb.cell _).trans g7, (hb.cell _).trans g8⟩, hs.below hw, hn'⟩
theorem UsB.cell {w0 : World} {F : Nat → Un} {n k i : Nat} {cur : Array Value} (h : UsB w0 F n cur) (hk : k < n) (hi : i < 9) : ∃ v, cur[k * 9 + i]? = some v := ⟨_, Array.getElem?_eq_getElem (by have := h.1; omega)⟩
theorem UsB.set {w0 : World} {F G : Nat → Un} {n k i : Nat} {cur : Array Value} {x : Int} (h : UsB w0 F n cur) (hk : k < n) (hi : i = 0 ∨ i = 7 ∨ i = 8) (hG : ∀ j, j ≠ k → G j = F j) (h0 : i = 0 → G k = { F k with bus := x }) (h7 : i = 7 → G k = { F k with spin := x }) (h8 : i = 8 → G k = { F k with on := x }) : UsB w0 G n (cur.setIfInBounds (k * 9 + i) (.int .i64 x)) := by
  refine ⟨by simpa using h.1, fun j hj => ?_⟩
  obtain ⟨A', n', c', ⟨g0, g1, g2, g3, g4, g5, g6, g7, g8⟩, hs, hn'⟩ := h.2 j hj
  have hsz := h.1
  by_cases e : j = k
  · subst e
    have hne : ∀ q, q ≠ i → (cur.setIfInBounds (j * 9 + i) (.int .i64 x))[j * 9 + q]? = cur[j * 9 + q]? := fun q hq => Array.getElem?_setIfInBounds_ne (by omega)
    have hself : (cur.setIfInBounds (j * 9 + i) (.int .i64 x))[j * 9 + i]? = some (.int .i64 x) := by rw [Array.getElem?_setIfInBounds_self, if_pos (by omega)]
    have n0 : ∀ q, (j * 9 + q = j * 9 + q) := fun _ => rfl
    rcases hi with rfl | rfl | rfl
    · rw [h0 rfl]
      refine ⟨A', n', c', ⟨hself, ?_, ?_, ?_, ?_, ?_, ?_, ?_, ?_⟩, hs, hn'⟩ <;> (rw [Array.getElem?_setIfInBounds_ne (by omega)]; assumption)
    · rw [h7 rfl]
      refine ⟨A', n', c', ⟨?_, ?_, ?_, ?_, ?_, ?_, ?_, hself, ?_⟩, hs, hn'⟩ <;> (rw [Array.getElem?_setIfInBounds_ne (by omega)]; assumption)
    · rw [h8 rfl]
      refine ⟨A', n', c', ⟨?_, ?_, ?_, ?_, ?_, ?_, ?_, ?_, hself⟩, hs, hn'⟩ <;> (rw [Array.getElem?_setIfInBounds_ne (by omega)]; assumption)
  · rw [hG j e]
    refine ⟨A', n', c', ⟨?_, ?_, ?_, ?_, ?_, ?_, ?_, ?_, ?_⟩, hs, hn'⟩ <;> (rw [Array.getElem?_setIfInBounds_ne (by omega)]; assumption)
theorem range_us {us : List Un} {n : Nat} (h : us.length = n) : (List.range n).map (fun j => us[j]?.getD U0) = us := by
  apply List.ext_getElem (by simp [h])
  intro i h1 h2
  simp [List.getElem?_eq_getElem h2]
theorem info_unit : (Tryz.prog.info? 39).map (fun i => (i.zero, i.size, i.bytes)) = some (some (.agg #[.int .i64 0, .int .i64 0, .slice none 0 0, .int .i64 0, .int .i64 0, .int .i64 0, .int .i64 0, .int .i64 0, .int .i64 0]), 9, 88) := by kernel_rfl

end Go.Proofs.YtdoeejcmaeefcaaGreat
