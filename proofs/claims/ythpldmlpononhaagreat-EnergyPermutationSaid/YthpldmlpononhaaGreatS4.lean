/-
Allocate of package step at a valid curve and a quantity that fits it: the walk. No statement of the seat is proved here; no conditions beyond those of each theorem.
-/
import Derived.Test.YthpldmlpononhaaGreatS3
namespace Go.Proofs.YthpldmlpononhaaGreat
set_option linter.unusedVariables false
set_option linter.unusedSimpArgs false
open Go.RowKit
open Wd

theorem info_Q : (Tryz.prog.info? 31).map (fun i => (i.zero, i.size, i.bytes)) = some (some (.agg #[.bool false, .slice none 0 0, .bool false, .slice none 0 0]), 4, 64) := by kernel_rfl

def qzero : Array Value := #[.bool false, .slice none 0 0, .bool false, .slice none 0 0]
theorem run_make_Q (k : Nat) (hk : k ≤ 1000000000) (w : World) :
    (Instr.makeSlice 24 (.int .i64 (k : Int)) (.int .i64 (k : Int))).run Tryz.prog w = .ok (.slice (some ⟨w.heap.size, 0, none⟩) k k) (w.alloc (.cells (madeCells qzero (k * 4)) 31)) := by
  obtain ⟨i0, hi, hz0, hz1, hz2⟩ := info_parts info_Q
  have h := run_make (P := Tryz.prog) w 24 31 i0 _ Tryz.underlying24 hi hz0 .i64 .i64 k k (by omega) (Int.le_refl _) (by rw [hz2]; omega) (by omega)
  rw [h, hz1]
  simp only [Int.toNat_natCast, Value.cells]
  rfl

theorem made_get (n i : Nat) (h : i < n) : (madeCells qzero n)[i]? = some (qzero[i % 4]!) := by
  simp [madeCells, h, qzero]

theorem made_noInt (n : Nat) : NoInt (madeCells qzero n) := by
  intro i k z
  by_cases h : i < n
  · rw [made_get n i h]
    have h4 : i % 4 < 4 := Nat.mod_lt _ (by omega)
    generalize i % 4 = m at *
    match m, h4 with
    | 0, _ => simp [qzero]
    | 1, _ => simp [qzero]
    | 2, _ => simp [qzero]
    | 3, _ => simp [qzero]
  · rw [Array.getElem?_eq_none (by rw [size_madeCells]; omega)]; simp

theorem QRow.start (w : World) (n : Nat) : QRow (w.alloc (.cells (madeCells qzero (n * 4)) 31)) w.heap.size n (List.replicate n 0) := by
  refine ⟨by simp, _, Blk.new _ _ _, made_noInt _, size_madeCells _ _, fun j hj => ?_⟩
  have e : ((List.replicate n (0 : Rat))[j]?.getD 0) = 0 := by simp [hj]
  rw [e]
  refine ⟨none, 0, 0, none, 0, 0, ?_, ?_, ?_, ?_, Nat.le_refl _, Nat.le_refl _, ?_, ?_⟩
  · rw [made_get _ _ (by omega), show j * 4 % 4 = 0 by omega]; rfl
  · rw [made_get _ _ (by omega), show (j * 4 + 1) % 4 = 1 by omega]; rfl
  · rw [made_get _ _ (by omega), show (j * 4 + 2) % 4 = 2 by omega]; rfl
  · rw [made_get _ _ (by omega), show (j * 4 + 3) % 4 = 3 by omega]; rfl
  · show Wat _ none 0 (digs 0); rw [digs_zero]; exact Wat.nil
  · show Wat _ none 0 []; exact Wat.nil

end Go.Proofs.YthpldmlpononhaaGreat
