/-
The reference of layer 26: the check of a unit and its maximum. No statement of the seat is proved here; no conditions beyond those of each theorem.
-/
import Derived.Test.YthpldmlpononhaaGreatT1
import Derived.Test.YthpldmlpononhaaGreatU1
namespace Go.Proofs.YthpldmlpononhaaGreat
set_option linter.unusedVariables false
set_option linter.unusedSimpArgs false
open Go.RowKit
open Wd

set_option maxHeartbeats 2000000 in
theorem rumax_raw (bus mn up dn start idle spin on : Int) (A : Option Addr) (n c : Nat) (l : List (Int × Int)) (w : World) (h : StAt w A n l) :
    Calls Tryz.prog 84 #[.agg #[.int .i64 bus, .int .i64 mn, .slice A n c, .int .i64 up, .int .i64 dn, .int .i64 start, .int .i64 idle, .int .i64 spin, .int .i64 on]] w fun e w' => e = .returned (.int .i64 (umax ⟨bus, mn, l, up, dn, start, idle, spin, on⟩)) ∧ Below w.heap.size w w' := by
  have T := fun W hW => rcheck_up A n c l W hW
  have TS := fun W hW => rsum_any A n c l W hW
  unfold umax
  simp only
  by_cases h3 : chk true l = 0
  · rw [if_pos h3]
    rw [sumS_offer h3] at TS
    rw [h3] at T
    generalize qsum l = qs at *
    have HT := Lib.hid T
    have HTS := Lib.hid TS
    clear h3 T TS
    go_enter Tryz.func84, Tryz.ntmps84
    go_wp2_with fail
    have hB0 := Blk.new w 48 #[.int .i64 bus, .int .i64 mn, .slice A n c, .int .i64 up, .int .i64 dn, .int .i64 start, .int .i64 idle, .int .i64 spin, .int .i64 on]
    have hBW : Below w.heap.size w (w.alloc (.cells #[.int .i64 bus, .int .i64 mn, .slice A n c, .int .i64 up, .int .i64 dn, .int .i64 start, .int .i64 idle, .int .i64 spin, .int .i64 on] 48)) := (Below.refl _ _).alloc (Nat.le_refl _) _
    have hsz : (w.alloc (.cells #[.int .i64 bus, .int .i64 mn, .slice A n c, .int .i64 up, .int .i64 dn, .int .i64 start, .int .i64 idle, .int .i64 spin, .int .i64 on] 48)).heap.size = w.heap.size + 1 := by simp
    generalize w.alloc (.cells #[.int .i64 bus, .int .i64 mn, .slice A n c, .int .i64 up, .int .i64 dn, .int .i64 start, .int .i64 idle, .int .i64 spin, .int .i64 on] 48) = W at *
    have HSZ := Lib.hid hsz
    clear hsz
    refine (HT.out W (h.below hBW)).mono ?_
    rintro e w1 ⟨rfl, hb1⟩
    have hB0 := hB0.below hb1 hB0.lt
    have hb1 : Below w.heap.size w w1 := hBW.trans (hb1.mono hBW.size)
    obtain ⟨c0, c1, c2, c3, c4, c5, c6, c7, c8⟩ := hB0.nine
    clear hBW HSZ hB0
    go_wp2_with fail
    refine (HTS.out w1 (h.below hb1)).mono ?_
    rintro e w2 ⟨rfl, hb2⟩
    clear c0 c1 c2 c3 c4 c5 c6 c7 c8
    go_wp2
    go_ret
    exact ⟨rfl, hb1.trans (hb2.mono hb1.size)⟩
  · rw [if_neg h3]
    generalize chk true l = x at *
    have hx : (x != 0) = true := by simpa using h3
    have HT := Lib.hid T
    clear h3 T TS
    go_enter Tryz.func84, Tryz.ntmps84
    go_wp2_with fail
    have hB0 := Blk.new w 48 #[.int .i64 bus, .int .i64 mn, .slice A n c, .int .i64 up, .int .i64 dn, .int .i64 start, .int .i64 idle, .int .i64 spin, .int .i64 on]
    have hBW : Below w.heap.size w (w.alloc (.cells #[.int .i64 bus, .int .i64 mn, .slice A n c, .int .i64 up, .int .i64 dn, .int .i64 start, .int .i64 idle, .int .i64 spin, .int .i64 on] 48)) := (Below.refl _ _).alloc (Nat.le_refl _) _
    have hsz : (w.alloc (.cells #[.int .i64 bus, .int .i64 mn, .slice A n c, .int .i64 up, .int .i64 dn, .int .i64 start, .int .i64 idle, .int .i64 spin, .int .i64 on] 48)).heap.size = w.heap.size + 1 := by simp
    generalize w.alloc (.cells #[.int .i64 bus, .int .i64 mn, .slice A n c, .int .i64 up, .int .i64 dn, .int .i64 start, .int .i64 idle, .int .i64 spin, .int .i64 on] 48) = W at *
    have HSZ := Lib.hid hsz
    clear hsz
    refine (HT.out W (h.below hBW)).mono ?_
    rintro e w1 ⟨rfl, hb1⟩
    have hb1 : Below w.heap.size w w1 := hBW.trans (hb1.mono hBW.size)
    go_wp2
    go_ret
    exact ⟨rfl, hb1⟩

end Go.Proofs.YthpldmlpononhaaGreat
