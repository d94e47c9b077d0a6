/-
The reference of layer 26: the check of a unit, joined. No statement of the seat is proved here; no conditions beyond those of each theorem.
-/
import Derived.Test.YthpldmlpononhaaGreatT4
import Derived.Test.YthpldmlpononhaaGreatT5
import Derived.Test.YthpldmlpononhaaGreatT6
import Derived.Test.YthpldmlpononhaaGreatT7
namespace Go.Proofs.YthpldmlpononhaaGreat
set_option linter.unusedVariables false
set_option linter.unusedSimpArgs false
open Go.RowKit
open Wd

set_option maxHeartbeats 2000000 in
theorem rucheck_raw (bus mn up dn start idle spin on : Int) (A : Option Addr) (n c : Nat) (l : List (Int × Int)) (w : World) (h : StAt w A n l) :
    Calls Tryz.prog 85 #[.agg #[.int .i64 bus, .int .i64 mn, .slice A n c, .int .i64 up, .int .i64 dn, .int .i64 start, .int .i64 idle, .int .i64 spin, .int .i64 on], .int .i64 6] w fun e w' => e = .returned (.int .i64 (uchk ⟨bus, mn, l, up, dn, start, idle, spin, on⟩)) ∧ Below w.heap.size w w' := by
  by_cases h1 : bus < 0 ∨ 6 ≤ bus
  · have e : uchk ⟨bus, mn, l, up, dn, start, idle, spin, on⟩ = 1 := by unfold uchk; rw [if_pos h1]
    rw [e]
    have h2 : bus < 0 ∨ (¬ bus < 0 ∧ 6 ≤ bus) := by omega
    clear e h1
    rcases h2 with g1 | ⟨g1, g2⟩
    all_goals
      go_enter Tryz.func85, Tryz.ntmps85
      go_wp2
      go_ret
      exact ⟨rfl, (Below.refl _ _).alloc (Nat.le_refl _) _⟩
  · have g1 : ¬ bus < 0 := by omega
    have g2 : ¬ 6 ≤ bus := by omega
    by_cases h3 : chk true l = 0
    · have e3 : uchk ⟨bus, mn, l, up, dn, start, idle, spin, on⟩ = if mn < 0 ∨ qsum l < mn then 1 else if uRest up dn start idle spin on then 1 else 0 := by
        unfold uchk; rw [if_neg h1, if_neg (by intro hh; exact hh h3)]
      rw [e3]
      by_cases k1 : mn < 0
      · rw [if_pos (Or.inl k1)]
        exact rucheck_neg bus mn up dn start idle spin on A n c l w h g1 g2 h3 k1
      · by_cases k2 : qsum l < mn
        · rw [if_pos (Or.inr k2)]
          exact rucheck_more bus mn up dn start idle spin on (qsum l) A n c l w h g1 g2 h3 rfl k1 k2
        · rw [if_neg (by omega)]
          by_cases h6 : uRest up dn start idle spin on
          · rw [if_pos h6]
            rcases uRest_cases h6 with r0 | ⟨r0, r1⟩ | ⟨r0, r1, r2⟩ | ⟨r0, r1, r2, r3⟩ | ⟨r0, r1, r2, r3, r4⟩ | ⟨r0, r1, r2, r3, r4, r5⟩ | ⟨r0, r1, r2, r3, r4, r5, r6⟩ | ⟨r0, r1, r2, r3, r4, r5, r6, r7⟩ | ⟨r0, r1, r2, r3, r4, r5, r6, r7, r8⟩ | ⟨r0, r1, r2, r3, r4, r5, r6, r7, r8, r9⟩ | ⟨r0, r1, r2, r3, r4, r5, r6, r7, r8, r9, r10⟩ | ⟨r0, r1, r2, r3, r4, r5, r6, r7, r8, r9, r10, r11⟩ | ⟨r0, r1, r2, r3, r4, r5, r6, r7, r8, r9, r10, r11, r12⟩
            · exact rucheck_c0 bus mn up dn start idle spin on (qsum l) A n c l w h g1 g2 h3 rfl k1 k2 r0
            · exact rucheck_c1 bus mn up dn start idle spin on (qsum l) A n c l w h g1 g2 h3 rfl k1 k2 r0 r1
            · exact rucheck_c2 bus mn up dn start idle spin on (qsum l) A n c l w h g1 g2 h3 rfl k1 k2 r0 r1 r2
            · exact rucheck_c3 bus mn up dn start idle spin on (qsum l) A n c l w h g1 g2 h3 rfl k1 k2 r0 r1 r2 r3
            · exact rucheck_c4 bus mn up dn start idle spin on (qsum l) A n c l w h g1 g2 h3 rfl k1 k2 r0 r1 r2 r3 r4
            · exact rucheck_c5 bus mn up dn start idle spin on (qsum l) A n c l w h g1 g2 h3 rfl k1 k2 r0 r1 r2 r3 r4 r5
            · exact rucheck_c6 bus mn up dn start idle spin on (qsum l) A n c l w h g1 g2 h3 rfl k1 k2 r0 r1 r2 r3 r4 r5 r6
            · exact rucheck_c7 bus mn up dn start idle spin on (qsum l) A n c l w h g1 g2 h3 rfl k1 k2 r0 r1 r2 r3 r4 r5 r6 r7
            · exact rucheck_c8 bus mn up dn start idle spin on (qsum l) A n c l w h g1 g2 h3 rfl k1 k2 r0 r1 r2 r3 r4 r5 r6 r7 r8
            · exact rucheck_c9 bus mn up dn start idle spin on (qsum l) A n c l w h g1 g2 h3 rfl k1 k2 r0 r1 r2 r3 r4 r5 r6 r7 r8 r9
            · exact rucheck_c10 bus mn up dn start idle spin on (qsum l) A n c l w h g1 g2 h3 rfl k1 k2 r0 r1 r2 r3 r4 r5 r6 r7 r8 r9 r10
            · exact rucheck_c11 bus mn up dn start idle spin on (qsum l) A n c l w h g1 g2 h3 rfl k1 k2 r0 r1 r2 r3 r4 r5 r6 r7 r8 r9 r10 r11
            · exact rucheck_c12 bus mn up dn start idle spin on (qsum l) A n c l w h g1 g2 h3 rfl k1 k2 r0 r1 r2 r3 r4 r5 r6 r7 r8 r9 r10 r11 r12
          · rw [if_neg h6]
            obtain ⟨r0, r1, r2, r3, r4, r5, r6, r7, r8, r9, r10, r11, r12⟩ := uRest_none h6
            exact rucheck_c13 bus mn up dn start idle spin on (qsum l) A n c l w h g1 g2 h3 rfl k1 k2 r0 r1 r2 r3 r4 r5 r6 r7 r8 r9 r10 r11 r12
    · have e3 : uchk ⟨bus, mn, l, up, dn, start, idle, spin, on⟩ = chk true l := by
        unfold uchk; rw [if_neg h1, if_pos h3]
      rw [e3]
      have T := fun W hW => rcheck_up A n c l W hW
      generalize chk true l = x at *
      have hx : (x != 0) = true := by simpa using h3
      have HT := Lib.hid T
      clear h3 e3 h1 T
      go_enter Tryz.func85, Tryz.ntmps85
      go_wp2_with fail
      have hB0 := Blk.new w 48 #[.int .i64 bus, .int .i64 mn, .slice A n c, .int .i64 up, .int .i64 dn, .int .i64 start, .int .i64 idle, .int .i64 spin, .int .i64 on]
      have hBW : Below w.heap.size w (w.alloc (.cells #[.int .i64 bus, .int .i64 mn, .slice A n c, .int .i64 up, .int .i64 dn, .int .i64 start, .int .i64 idle, .int .i64 spin, .int .i64 on] 48)) := (Below.refl _ _).alloc (Nat.le_refl _) _
      have hsz : (w.alloc (.cells #[.int .i64 bus, .int .i64 mn, .slice A n c, .int .i64 up, .int .i64 dn, .int .i64 start, .int .i64 idle, .int .i64 spin, .int .i64 on] 48)).heap.size = w.heap.size + 1 := by simp
      generalize w.alloc (.cells #[.int .i64 bus, .int .i64 mn, .slice A n c, .int .i64 up, .int .i64 dn, .int .i64 start, .int .i64 idle, .int .i64 spin, .int .i64 on] 48) = W at *
      have HSZ := Lib.hid hsz
      clear hsz
      refine (HT.out W (h.below hBW)).mono ?_
      rintro e w1 ⟨rfl, hb1⟩
      have hb1 : Below w.heap.size w w1 := hBW.trans (hb1.mono hBW.size)
      go_wp2
      go_ret
      exact ⟨rfl, hb1⟩

end Go.Proofs.YthpldmlpononhaaGreat
