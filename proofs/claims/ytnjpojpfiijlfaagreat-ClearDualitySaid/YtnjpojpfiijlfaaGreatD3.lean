/-
step.Negate. No statement of the seat is proved here; no conditions beyond those of each theorem.
-/
import Derived.Test.YtnjpojpfiijlfaaGreatY5
namespace Go.Proofs.YtnjpojpfiijlfaaGreat
set_option linter.unusedVariables false
set_option linter.unusedSimpArgs false
open Go.RowKit
open Wd

def szero : Array Value := #[.int .i64 0, .int .i64 0]
theorem run_make_steps (k : Nat) (hk : k ≤ 1000000000) (w : World) :
    (Instr.makeSlice 29 (.int .i64 (k : Int)) (.int .i64 (k : Int))).run Tryz.prog w = .ok (.slice (some ⟨w.heap.size, 0, none⟩) k k) (w.alloc (.cells (madeCells szero (k * 2)) 74)) := by
  obtain ⟨i0, hi, hz0, hz1, hz2⟩ := info_parts info_step
  have h := run_make (P := Tryz.prog) w 29 74 i0 _ Tryz.underlying29 hi hz0 .i64 .i64 k k (by omega) (Int.le_refl _) (by rw [hz2]; omega) (by omega)
  rw [h, hz1]
  simp only [Int.toNat_natCast, Value.cells]
  rfl
theorem made_size (n : Nat) : (madeCells szero n).size = n := by simp [madeCells]
theorem made_some (n i : Nat) (h : i < n) : ∃ v, (madeCells szero n)[i]? = some v := ⟨(madeCells szero n)[i]'(by rw [made_size]; exact h), by simp [made_size, h]⟩
/-- A row of steps of the call's own. -/
def SRow (w : World) (g : Nat) (l : List (Int × Int)) : Prop := ∃ cs : Array Value, Blk w g 74 cs ∧ ∀ j, j < l.length → cs[j * 2]? = some (.int .i64 (l[j]?.getD (0, 0)).1) ∧ cs[j * 2 + 1]? = some (.int .i64 (l[j]?.getD (0, 0)).2)
theorem SRow.st {w : World} {g : Nat} {l : List (Int × Int)} (h : SRow w g l) (hf : ∀ s ∈ l, Fits s.1 ∧ Fits s.2) : StAt w (some ⟨g, 0, none⟩) l.length l := by
  obtain ⟨cs, hb, hc⟩ := h
  refine ⟨rfl, hf, fun h0 => ⟨g, 0, rfl, hb.lt, fun j hj => ?_⟩⟩
  rw [hb.cell, hb.cell, Nat.zero_add]
  exact hc j hj
theorem SRow.keep {w w' : World} {g : Nat} {l : List (Int × Int)} (h : SRow w g l) (hk : Kp w w') : SRow w' g l := by
  obtain ⟨cs, hb, hc⟩ := h
  exact ⟨cs, hk.blk hb, hc⟩
theorem negL_fits {l : List (Int × Int)} (h : ∀ s ∈ l, ¬ Bad s.1 s.2) : ∀ s ∈ negL l, Fits s.1 ∧ Fits s.2 := fun s hs => by
  obtain ⟨s', hs', rfl⟩ := List.mem_map.1 hs
  have := h s' hs'
  unfold Bad at this
  unfold Fits
  simp only
  omega
theorem negL_len (l : List (Int × Int)) : (negL l).length = l.length := by simp [negL]
theorem negL_get (l : List (Int × Int)) (j : Nat) : (negL l)[j]?.getD (0, 0) = ((l[j]?.getD (0, 0)).1, -(l[j]?.getD (0, 0)).2) := by
  unfold negL
  rw [List.getElem?_map]
  cases l[j]? <;> rfl
/-- While the negated steps are written. -/
def NgR (w : World) (n k : Nat) (l : List (Int × Int)) (g : Nat) (wr : World) : Prop :=
  Below w.heap.size w wr ∧ ∃ cs : Array Value, Blk wr g 74 cs ∧ cs.size = n * 2 ∧ ∀ j, j < k → cs[j * 2]? = some (.int .i64 (l[j]?.getD (0, 0)).1) ∧ cs[j * 2 + 1]? = some (.int .i64 (-(l[j]?.getD (0, 0)).2))

set_option maxRecDepth 100000 in
set_option maxHeartbeats 8000000 in
theorem negate_any (A : Option Addr) (n c : Nat) (l : List (Int × Int)) (w : World) (h : StAt w A n l) (hn : n ≤ 3) (hb : ∀ s ∈ l, ¬ Bad s.1 s.2) :
    Calls Tryz.prog 128 #[.slice A n c] w fun e w' => ∃ g, e = .returned (.slice (some ⟨g, 0, none⟩) n n) ∧ SRow w' g (negL l) ∧ w.heap.size ≤ g ∧ Below w.heap.size w w' := by
  have HX := Lib.hid h
  have HLN := Lib.hid h.1
  have HB := Lib.hid hb
  have hmk := fun w => run_make_steps n (by omega) w
  clear h hb
  go_enter Tryz.func128, Tryz.ntmps128
  go_wp2_with fail
  have hst : NgR w n 0 l w.heap.size (w.alloc (.cells (madeCells szero (n * 2)) 74)) :=
    ⟨(Below.refl _ _).alloc (Nat.le_refl _) _, madeCells szero (n * 2), Blk.new w _ _, made_size _, fun j hj => absurd hj (by omega)⟩
  have HST := Lib.hid hst
  clear hst hmk
  generalize w.alloc (.cells (madeCells szero (n * 2)) 74) = W1 at *
  obtain ⟨g, hg⟩ : ∃ g, g = w.heap.size := ⟨_, rfl⟩
  have HG := Lib.hid hg
  go_loopw [11] (fun t wr => ∃ k : Nat, k ≤ n ∧ t = .int .i64 k ∧ Hid (NgR w n k l w.heap.size wr)) (fun t _ => n - (intOf t).toNat)
  case atStart => exact ⟨0, Nat.zero_le _, rfl, HST.out⟩
  case round =>
    clear HST
    obtain ⟨k, hk, rfl, hR⟩ := hrel
    by_cases hlt : k < n
    · obtain ⟨hBW, cs, hcb, hcs, hcc⟩ := hR.out
      obtain ⟨b, o, rfl, hb, hc⟩ := HX.out.2.2 (by omega)
      obtain ⟨y0, y1⟩ := hc k hlt
      have hkl : k < l.length := by rw [HLN.out]; exact hlt
      have hbad := HB.out _ (getD_mem (d := ((0, 0) : Int × Int)) hkl)
      replace y0 := (hBW.cell (p := ⟨b, o + k * 2, none⟩) hb).trans y0
      replace y1 := (hBW.cell (p := ⟨b, o + k * 2 + 1, none⟩) hb).trans y1
      have HCC := Lib.hid hcc
      obtain ⟨s, hs⟩ : ∃ s, s = (l[k]?.getD (0, 0)).1 := ⟨_, rfl⟩
      obtain ⟨p, hp⟩ : ∃ p, p = (l[k]?.getD (0, 0)).2 := ⟨_, rfl⟩
      rw [← hs, ← hp] at hbad
      rw [← hs] at y0
      rw [← hp] at y1
      have HSP := Lib.hid (And.intro hs hp)
      unfold Bad at hbad
      have xn : IntKind.i64.wrap (-p) = -p := IntWalk.i64_in _ (by omega)
      have k1 : (0 : Int) ≤ (k : Int) := by omega
      have k2 : (k : Int) < (n : Int) := by omega
      have c1 := hcb.alloc (.cells #[.int .i64 s, .int .i64 p] 74)
      have c2 : ∃ v, (wr.alloc (.cells #[.int .i64 s, .int .i64 p] 74)).cell? ⟨w.heap.size, k * 2, none⟩ = some v := by
        rw [c1.cell]; exact ⟨cs[k * 2]'(by omega), by simp⟩
      have c3 : ∃ v, (wr.alloc (.cells #[.int .i64 s, .int .i64 p] 74)).cell? ⟨w.heap.size, k * 2 + 1, none⟩ = some v := by
        rw [c1.cell]; exact ⟨cs[k * 2 + 1]'(by omega), by simp⟩
      obtain ⟨v1, c2⟩ := c2
      obtain ⟨v2, c3⟩ := c3
      have c4 := c1.frozen (k * 2)
      have c5 := c1.frozen (k * 2 + 1)
      have HC1 := Lib.hid (And.intro hBW (And.intro c1 hcs))
      clear hcb hcs hcc hR hBW c1 hs hp hbad hkl hc
      go_wp2_with fail
      obtain ⟨hB, hb1, hb2⟩ := HC1.out
      refine ⟨⟨k + 1, by omega, by go_num, ⟨(hB.alloc hB.size _).setCell (p := ⟨w.heap.size, k * 2, none⟩) (Nat.le_refl _) _ |>.setCell (p := ⟨w.heap.size, k * 2 + 1, none⟩) (Nat.le_refl _) _, _, (hb1.set (k * 2) _).set (k * 2 + 1) _, by simp; exact hb2, fun j hj => ?_⟩⟩, by simp [intOf]; omega⟩
      by_cases hjk : j = k
      · subst hjk
        rw [← HSP.out.1, ← HSP.out.2]
        refine ⟨?_, ?_⟩
        · rw [Array.getElem?_setIfInBounds, if_neg (by omega), Array.getElem?_setIfInBounds, if_pos rfl, if_pos (by omega)]
        · rw [Array.getElem?_setIfInBounds, if_pos rfl, if_pos (by simp; omega)]
      · have := HCC.out j (by omega)
        refine ⟨?_, ?_⟩
        · rw [Array.getElem?_setIfInBounds, if_neg (by omega), Array.getElem?_setIfInBounds, if_neg (by omega)]
          exact this.1
        · rw [Array.getElem?_setIfInBounds, if_neg (by omega), Array.getElem?_setIfInBounds, if_neg (by omega)]
          exact this.2
    · obtain rfl : k = n := by omega
      have HF := Lib.hid hR.out
      clear hR
      go_wp2
      go_ret
      obtain ⟨hB, cs, hcb, hcs, hcc⟩ := HF.out
      refine ⟨w.heap.size, rfl, ⟨cs, hcb, fun j hj => ?_⟩, Nat.le_refl _, hB⟩
      rw [negL_len, HLN.out] at hj
      rw [negL_get]
      exact hcc j hj

end Go.Proofs.YtnjpojpfiijlfaaGreat
