/-
Contracts of package unit: Check and Max. No statement of the seat is proved here; no conditions beyond those of each theorem.
-/
import Derived.Test.YtodkhjihkkmplaaGreatLS1
namespace Go.Proofs.YtodkhjihkkmplaaGreat
set_option linter.unusedVariables false
set_option linter.unusedSimpArgs false
open Go.RowKit
open Wd

/-- A generating unit. -/
structure Un where
 bus : Int
 mn : Int
 st : List (Int × Int)
 up : Int
 dn : Int
 start : Int
 idle : Int
 spin : Int
 on : Int


def uRest (up dn start idle spin on : Int) : Prop := up < 1 ∨ 6 < up ∨ dn < 1 ∨ 6 < dn ∨ start < 0 ∨ 1000000000 < start ∨ idle < 0 ∨ 1000000000 < idle ∨ spin < 0 ∨ 1000000 < spin ∨ on = 0 ∨ on < -6 ∨ 6 < on
instance (up dn start idle spin on : Int) : Decidable (uRest up dn start idle spin on) := by unfold uRest; infer_instance
/-- The error of a unit in a network of six buses. -/
def uchk (u : Un) : Int := if u.bus < 0 ∨ 6 ≤ u.bus then 1 else if chk true u.st ≠ 0 then chk true u.st else if u.mn < 0 ∨ qsum u.st < u.mn then 1 else if uRest u.up u.dn u.start u.idle u.spin u.on then 1 else 0
/-- The maximum output. -/
def umax (u : Un) : Int := if chk true u.st = 0 then qsum u.st else 0

theorem sumS_offer {l : List (Int × Int)} (h : chk true l = 0) : sumS l = qsum l := by
 unfold sumS curveE
 by_cases h0 : chk false l = 0
 ·rw [if_pos h0, if_pos rfl]
 ·rw [if_neg h0, if_pos h]

section
variable {w : World} {g : Nat} {t : TypeId} {a0 a1 a2 a3 a4 a5 a6 a7 a8 : Value}
theorem Blk.nine (h : Blk w g t #[a0, a1, a2, a3, a4, a5, a6, a7, a8]) : w.cell? ⟨g, 0, none⟩ = some a0 ∧ w.cell? ⟨g, 1, none⟩ = some a1 ∧ w.cell? ⟨g, 2, none⟩ = some a2 ∧ w.cell? ⟨g, 3, none⟩ = some a3 ∧ w.cell? ⟨g, 4, none⟩ = some a4 ∧ w.cell? ⟨g, 5, none⟩ = some a5 ∧ w.cell? ⟨g, 6, none⟩ = some a6 ∧ w.cell? ⟨g, 7, none⟩ = some a7 ∧ w.cell? ⟨g, 8, none⟩ = some a8 :=
 ⟨h.cell 0, h.cell 1, h.cell 2, h.cell 3, h.cell 4, h.cell 5, h.cell 6, h.cell 7, h.cell 8⟩
end

theorem uRest_cases {up dn start idle spin on : Int} (h : uRest up dn start idle spin on) : (up < 1) ∨ (¬ up < 1 ∧ 6 < up) ∨ (¬ up < 1 ∧ ¬ 6 < up ∧ dn < 1) ∨ (¬ up < 1 ∧ ¬ 6 < up ∧ ¬ dn < 1 ∧ 6 < dn) ∨ (¬ up < 1 ∧ ¬ 6 < up ∧ ¬ dn < 1 ∧ ¬ 6 < dn ∧ start < 0) ∨ (¬ up < 1 ∧ ¬ 6 < up ∧ ¬ dn < 1 ∧ ¬ 6 < dn ∧ ¬ start < 0 ∧ 1000000000 < start) ∨ (¬ up < 1 ∧ ¬ 6 < up ∧ ¬ dn < 1 ∧ ¬ 6 < dn ∧ ¬ start < 0 ∧ ¬ 1000000000 < start ∧ idle < 0) ∨ (¬ up < 1 ∧ ¬ 6 < up ∧ ¬ dn < 1 ∧ ¬ 6 < dn ∧ ¬ start < 0 ∧ ¬ 1000000000 < start ∧ ¬ idle < 0 ∧ 1000000000 < idle) ∨ (¬ up < 1 ∧ ¬ 6 < up ∧ ¬ dn < 1 ∧ ¬ 6 < dn ∧ ¬ start < 0 ∧ ¬ 1000000000 < start ∧ ¬ idle < 0 ∧ ¬ 1000000000 < idle ∧ spin < 0) ∨ (¬ up < 1 ∧ ¬ 6 < up ∧ ¬ dn < 1 ∧ ¬ 6 < dn ∧ ¬ start < 0 ∧ ¬ 1000000000 < start ∧ ¬ idle < 0 ∧ ¬ 1000000000 < idle ∧ ¬ spin < 0 ∧ 1000000 < spin) ∨ (¬ up < 1 ∧ ¬ 6 < up ∧ ¬ dn < 1 ∧ ¬ 6 < dn ∧ ¬ start < 0 ∧ ¬ 1000000000 < start ∧ ¬ idle < 0 ∧ ¬ 1000000000 < idle ∧ ¬ spin < 0 ∧ ¬ 1000000 < spin ∧ on = 0) ∨ (¬ up < 1 ∧ ¬ 6 < up ∧ ¬ dn < 1 ∧ ¬ 6 < dn ∧ ¬ start < 0 ∧ ¬ 1000000000 < start ∧ ¬ idle < 0 ∧ ¬ 1000000000 < idle ∧ ¬ spin < 0 ∧ ¬ 1000000 < spin ∧ ¬ on = 0 ∧ on < -6) ∨ (¬ up < 1 ∧ ¬ 6 < up ∧ ¬ dn < 1 ∧ ¬ 6 < dn ∧ ¬ start < 0 ∧ ¬ 1000000000 < start ∧ ¬ idle < 0 ∧ ¬ 1000000000 < idle ∧ ¬ spin < 0 ∧ ¬ 1000000 < spin ∧ ¬ on = 0 ∧ ¬ on < -6 ∧ 6 < on) := by
 by_cases g0 : up < 1
 ·exact Or.inl g0
 right
 by_cases g1 : 6 < up
 ·exact Or.inl ⟨g0, g1⟩
 right
 by_cases g2 : dn < 1
 ·exact Or.inl ⟨g0, g1, g2⟩
 right
 by_cases g3 : 6 < dn
 ·exact Or.inl ⟨g0, g1, g2, g3⟩
 right
 by_cases g4 : start < 0
 ·exact Or.inl ⟨g0, g1, g2, g3, g4⟩
 right
 by_cases g5 : 1000000000 < start
 ·exact Or.inl ⟨g0, g1, g2, g3, g4, g5⟩
 right
 by_cases g6 : idle < 0
 ·exact Or.inl ⟨g0, g1, g2, g3, g4, g5, g6⟩
 right
 by_cases g7 : 1000000000 < idle
 ·exact Or.inl ⟨g0, g1, g2, g3, g4, g5, g6, g7⟩
 right
 by_cases g8 : spin < 0
 ·exact Or.inl ⟨g0, g1, g2, g3, g4, g5, g6, g7, g8⟩
 right
 by_cases g9 : 1000000 < spin
 ·exact Or.inl ⟨g0, g1, g2, g3, g4, g5, g6, g7, g8, g9⟩
 right
 by_cases g10 : on = 0
 ·exact Or.inl ⟨g0, g1, g2, g3, g4, g5, g6, g7, g8, g9, g10⟩
 right
 by_cases g11 : on < -6
 ·exact Or.inl ⟨g0, g1, g2, g3, g4, g5, g6, g7, g8, g9, g10, g11⟩
 right
 refine ⟨g0, g1, g2, g3, g4, g5, g6, g7, g8, g9, g10, g11, ?_⟩
 rcases h with h | h | h | h | h | h | h | h | h | h | h | h | h
 ·exact absurd h g0
 ·exact absurd h g1
 ·exact absurd h g2
 ·exact absurd h g3
 ·exact absurd h g4
 ·exact absurd h g5
 ·exact absurd h g6
 ·exact absurd h g7
 ·exact absurd h g8
 ·exact absurd h g9
 ·exact absurd h g10
 ·exact absurd h g11
 ·exact h
theorem uRest_none {up dn start idle spin on : Int} (h : ¬ uRest up dn start idle spin on) : ¬ up < 1 ∧ ¬ 6 < up ∧ ¬ dn < 1 ∧ ¬ 6 < dn ∧ ¬ start < 0 ∧ ¬ 1000000000 < start ∧ ¬ idle < 0 ∧ ¬ 1000000000 < idle ∧ ¬ spin < 0 ∧ ¬ 1000000 < spin ∧ ¬ on = 0 ∧ ¬ on < -6 ∧ ¬ 6 < on := by
 unfold uRest at h
 simp only [not_or] at h
 exact h

set_option maxRecDepth 100000 in
set_option maxHeartbeats 8000000 in
theorem ucheck_raw (bus mn up dn start idle spin on : Int) (A : Option Addr) (n c : Nat) (l : List (Int × Int)) (w : World) (h : StAt w A n l) (hm : n ≤ 1000000000000) :
  Calls Tryz.prog 98 #[.agg #[.int .i64 bus, .int .i64 mn, .slice A n c, .int .i64 up, .int .i64 dn, .int .i64 start, .int .i64 idle, .int .i64 spin, .int .i64 on], .int .i64 6] w fun e w' => e = .returned (.int .i64 (uchk ⟨bus, mn, l, up, dn, start, idle, spin, on⟩)) ∧ Below w.heap.size w w' := by
 by_cases h1 : bus < 0 ∨ 6 ≤ bus
 ·have e : uchk ⟨bus, mn, l, up, dn, start, idle, spin, on⟩ = 1 := by unfold uchk; rw [if_pos h1]
  rw [e]
  have h2 : bus < 0 ∨ (¬ bus < 0 ∧ 6 ≤ bus) := by omega
  clear e h1
  rcases h2 with g1 | ⟨g1, g2⟩
  all_goals
   go_enter Tryz.func98, Tryz.ntmps98
   go_wp2
   go_ret
   exact ⟨rfl, (Below.refl _ _).alloc (Nat.le_refl _) _⟩
 ·have g1 : ¬ bus < 0 := by omega
  have g2 : ¬ 6 ≤ bus := by omega
  have T := fun W hW => checkOffer_any A n c l W hW hm
  by_cases h3 : chk true l = 0
  ·have e3 : uchk ⟨bus, mn, l, up, dn, start, idle, spin, on⟩ = if mn < 0 ∨ qsum l < mn then 1 else if uRest up dn start idle spin on then 1 else 0 := by
    unfold uchk; rw [if_neg h1, if_neg (by intro hh; exact hh h3)]
   rw [e3]
   have TS := fun W hW => sum_any A n c l W hW hm
   rw [sumS_offer h3] at TS
   rw [h3] at T
   generalize qsum l = qs at *
   have T := Lib.hid T
   have TS := Lib.hid TS
   clear h3 e3 h1
   by_cases h4 : mn < 0 ∨ qs < mn
   ·rw [if_pos h4]
    have h5 : mn < 0 ∨ (¬ mn < 0 ∧ qs < mn) := by omega
    clear h4
    rcases h5 with k1 | ⟨k1, k2⟩
    ·have hd : decide (mn < 0) = true := by simpa using k1
     go_enter Tryz.func98, Tryz.ntmps98
     go_wp2_with fail
     obtain ⟨hB0, hBW, hsz⟩ := pre1 w 48 #[.int .i64 bus, .int .i64 mn, .slice A n c, .int .i64 up, .int .i64 dn, .int .i64 start, .int .i64 idle, .int .i64 spin, .int .i64 on]
     generalize w.alloc (.cells #[.int .i64 bus, .int .i64 mn, .slice A n c, .int .i64 up, .int .i64 dn, .int .i64 start, .int .i64 idle, .int .i64 spin, .int .i64 on] 48) = W at *
     have HSZ := Lib.hid hsz
     clear hsz
     refine (T.out W (h.below hBW)).mono ?_
     rintro e w1 ⟨rfl, hb1⟩
     have hB0 := hB0.below hb1 hB0.lt
     have hb1 : Below w.heap.size w w1 := hBW.trans (hb1.mono hBW.size)
     obtain ⟨c0, c1, c2, c3, c4, c5, c6, c7, c8⟩ := hB0.nine
     clear hBW HSZ
     go_wp2_with fail
     go_quiet (fail)
     go_wp2
     go_ret
     exact ⟨rfl, below_drewN hb1 _⟩
    ·have hd : decide (mn < 0) = false := by simpa using k1
     go_enter Tryz.func98, Tryz.ntmps98
     go_wp2_with fail
     obtain ⟨hB0, hBW, hsz⟩ := pre1 w 48 #[.int .i64 bus, .int .i64 mn, .slice A n c, .int .i64 up, .int .i64 dn, .int .i64 start, .int .i64 idle, .int .i64 spin, .int .i64 on]
     generalize w.alloc (.cells #[.int .i64 bus, .int .i64 mn, .slice A n c, .int .i64 up, .int .i64 dn, .int .i64 start, .int .i64 idle, .int .i64 spin, .int .i64 on] 48) = W at *
     have HSZ := Lib.hid hsz
     clear hsz
     refine (T.out W (h.below hBW)).mono ?_
     rintro e w1 ⟨rfl, hb1⟩
     have hB0 := hB0.below hb1 hB0.lt
     have hb1 : Below w.heap.size w w1 := hBW.trans (hb1.mono hBW.size)
     obtain ⟨c0, c1, c2, c3, c4, c5, c6, c7, c8⟩ := hB0.nine
     clear hBW HSZ
     have s5 := Kp.refl w1
     go_wp2_with fail
     have hS : ∀ w', Kp w1 w' → (w'.cell? ⟨w.heap.size, 1, none⟩ = some (.int .i64 mn) ∧ w'.cell? ⟨w.heap.size, 2, none⟩ = some (.slice A n c)) ∧ Kp w1 w' := fun w' hk => ⟨⟨(hk.blk hB0).cell 1, (hk.blk hB0).cell 2⟩, hk⟩
     have HS := Lib.hid hS
     clear hS
     go_region_held3 (fun w' => (w'.cell? ⟨w.heap.size, 1, none⟩ = some (.int .i64 mn) ∧ w'.cell? ⟨w.heap.size, 2, none⟩ = some (.slice A n c)) ∧ Kp w1 w')
      (first | (with_reducible refine HS.out _ ?_; with_reducible assumption) | (with_reducible refine HS.out _ (Kp.drew ?_); with_reducible assumption) | (with_reducible refine' HS.out _ (Kp.drew (And.right ?_)); rotate_left; with_reducible assumption))
      (first
       | (go_at_call 75; have hk := And.right ‹_ ∧ Kp w1 _›; refine (TS.out _ ((h.below hb1).below hk)).mono ?_; rintro e v1 ⟨rfl, hbv⟩; have hr1 := hk.trans hbv; clear hbv))
     have hb2 : Below w.heap.size w v1 := hb1.trans (Below.mono hr1 hb1.size)
     go_wp2
     go_ret
     exact ⟨rfl, hb2⟩
   ·rw [if_neg h4]
    have k1 : ¬ mn < 0 := by omega
    have k2 : ¬ qs < mn := by omega
    have hd : decide (mn < 0) = false := by simpa using k1
    clear h4
    by_cases h6 : uRest up dn start idle spin on
    ·rw [if_pos h6]
     have h7 := uRest_cases h6
     clear h6
     go_enter Tryz.func98, Tryz.ntmps98
     go_wp2_with fail
     obtain ⟨hB0, hBW, hsz⟩ := pre1 w 48 #[.int .i64 bus, .int .i64 mn, .slice A n c, .int .i64 up, .int .i64 dn, .int .i64 start, .int .i64 idle, .int .i64 spin, .int .i64 on]
     generalize w.alloc (.cells #[.int .i64 bus, .int .i64 mn, .slice A n c, .int .i64 up, .int .i64 dn, .int .i64 start, .int .i64 idle, .int .i64 spin, .int .i64 on] 48) = W at *
     have HSZ := Lib.hid hsz
     clear hsz
     refine (T.out W (h.below hBW)).mono ?_
     rintro e w1 ⟨rfl, hb1⟩
     have hB0 := hB0.below hb1 hB0.lt
     have hb1 : Below w.heap.size w w1 := hBW.trans (hb1.mono hBW.size)
     obtain ⟨c0, c1, c2, c3, c4, c5, c6, c7, c8⟩ := hB0.nine
     clear hBW HSZ
     have s5 := Kp.refl w1
     have H7 := Lib.hid h7
     clear h7
     go_wp2_with fail
     have hS : ∀ w', Kp w1 w' → (w'.cell? ⟨w.heap.size, 1, none⟩ = some (.int .i64 mn) ∧ w'.cell? ⟨w.heap.size, 2, none⟩ = some (.slice A n c)) ∧ Kp w1 w' := fun w' hk => ⟨⟨(hk.blk hB0).cell 1, (hk.blk hB0).cell 2⟩, hk⟩
     have HS := Lib.hid hS
     clear hS
     go_region_held3 (fun w' => (w'.cell? ⟨w.heap.size, 1, none⟩ = some (.int .i64 mn) ∧ w'.cell? ⟨w.heap.size, 2, none⟩ = some (.slice A n c)) ∧ Kp w1 w')
      (first | (with_reducible refine HS.out _ ?_; with_reducible assumption) | (with_reducible refine HS.out _ (Kp.drew ?_); with_reducible assumption) | (with_reducible refine' HS.out _ (Kp.drew (And.right ?_)); rotate_left; with_reducible assumption))
      (first
       | (go_at_call 75; have hk := And.right ‹_ ∧ Kp w1 _›; refine (TS.out _ ((h.below hb1).below hk)).mono ?_; rintro e v1 ⟨rfl, hbv⟩; have hr1 := hk.trans hbv; clear hbv))
     have hb2 : Below w.heap.size w v1 := hb1.trans (Below.mono hr1 hb1.size)
     have hB9 := Kp.blk hr1 hB0
     clear c0 c1 c2 c3 c4 c5 c6 c7 c8 hB0 hb1 s5 HS T TS h
     obtain ⟨c0, c1, c2, c3, c4, c5, c6, c7, c8⟩ := hB9.nine
     clear hB9 hr1
     rcases H7.out with g0 | ⟨g0, g1⟩ | ⟨g0, g1, g2⟩ | ⟨g0, g1, g2, g3⟩ | ⟨g0, g1, g2, g3, g4⟩ | ⟨g0, g1, g2, g3, g4, g5⟩ | ⟨g0, g1, g2, g3, g4, g5, g6⟩ | ⟨g0, g1, g2, g3, g4, g5, g6, g7⟩ | ⟨g0, g1, g2, g3, g4, g5, g6, g7, g8⟩ | ⟨g0, g1, g2, g3, g4, g5, g6, g7, g8, g9⟩ | ⟨g0, g1, g2, g3, g4, g5, g6, g7, g8, g9, g10⟩ | ⟨g0, g1, g2, g3, g4, g5, g6, g7, g8, g9, g10, g11⟩ | ⟨g0, g1, g2, g3, g4, g5, g6, g7, g8, g9, g10, g11, g12⟩
     all_goals
      (try (rename_i g10; have hon : (on == 0) = false := by simpa using g10))
      clear H7
      go_wp2
      go_ret
      exact ⟨rfl, hb2⟩
    ·rw [if_neg h6]
     have h7 := uRest_none h6
     obtain ⟨g0, g1, g2, g3, g4, g5, g6, g7, g8, g9, g10, g11, g12⟩ := h7
     have hon : (on == 0) = false := by simpa using g10
     clear h6
     go_enter Tryz.func98, Tryz.ntmps98
     go_wp2_with fail
     obtain ⟨hB0, hBW, hsz⟩ := pre1 w 48 #[.int .i64 bus, .int .i64 mn, .slice A n c, .int .i64 up, .int .i64 dn, .int .i64 start, .int .i64 idle, .int .i64 spin, .int .i64 on]
     generalize w.alloc (.cells #[.int .i64 bus, .int .i64 mn, .slice A n c, .int .i64 up, .int .i64 dn, .int .i64 start, .int .i64 idle, .int .i64 spin, .int .i64 on] 48) = W at *
     have HSZ := Lib.hid hsz
     clear hsz
     refine (T.out W (h.below hBW)).mono ?_
     rintro e w1 ⟨rfl, hb1⟩
     have hB0 := hB0.below hb1 hB0.lt
     have hb1 : Below w.heap.size w w1 := hBW.trans (hb1.mono hBW.size)
     obtain ⟨c0, c1, c2, c3, c4, c5, c6, c7, c8⟩ := hB0.nine
     clear hBW HSZ
     have s5 := Kp.refl w1
     go_wp2_with fail
     have hS : ∀ w', Kp w1 w' → (w'.cell? ⟨w.heap.size, 1, none⟩ = some (.int .i64 mn) ∧ w'.cell? ⟨w.heap.size, 2, none⟩ = some (.slice A n c)) ∧ Kp w1 w' := fun w' hk => ⟨⟨(hk.blk hB0).cell 1, (hk.blk hB0).cell 2⟩, hk⟩
     have HS := Lib.hid hS
     clear hS
     go_region_held3 (fun w' => (w'.cell? ⟨w.heap.size, 1, none⟩ = some (.int .i64 mn) ∧ w'.cell? ⟨w.heap.size, 2, none⟩ = some (.slice A n c)) ∧ Kp w1 w')
      (first | (with_reducible refine HS.out _ ?_; with_reducible assumption) | (with_reducible refine HS.out _ (Kp.drew ?_); with_reducible assumption) | (with_reducible refine' HS.out _ (Kp.drew (And.right ?_)); rotate_left; with_reducible assumption))
      (first
       | (go_at_call 75; have hk := And.right ‹_ ∧ Kp w1 _›; refine (TS.out _ ((h.below hb1).below hk)).mono ?_; rintro e v1 ⟨rfl, hbv⟩; have hr1 := hk.trans hbv; clear hbv))
     have hb2 : Below w.heap.size w v1 := hb1.trans (Below.mono hr1 hb1.size)
     have hB9 := Kp.blk hr1 hB0
     clear c0 c1 c2 c3 c4 c5 c6 c7 c8 hB0 hb1 s5 HS T TS h
     obtain ⟨c0, c1, c2, c3, c4, c5, c6, c7, c8⟩ := hB9.nine
     clear hB9 hr1
     go_wp2
     go_ret
     exact ⟨rfl, hb2⟩
  ·have e3 : uchk ⟨bus, mn, l, up, dn, start, idle, spin, on⟩ = chk true l := by
    unfold uchk; rw [if_neg h1, if_pos h3]
   rw [e3]
   generalize chk true l = x at *
   have hx : (x != 0) = true := by simpa using h3
   have T := Lib.hid T
   clear h3 e3 h1
   go_enter Tryz.func98, Tryz.ntmps98
   go_wp2_with fail
   obtain ⟨hB0, hBW, hsz⟩ := pre1 w 48 #[.int .i64 bus, .int .i64 mn, .slice A n c, .int .i64 up, .int .i64 dn, .int .i64 start, .int .i64 idle, .int .i64 spin, .int .i64 on]
   generalize w.alloc (.cells #[.int .i64 bus, .int .i64 mn, .slice A n c, .int .i64 up, .int .i64 dn, .int .i64 start, .int .i64 idle, .int .i64 spin, .int .i64 on] 48) = W at *
   have HSZ := Lib.hid hsz
   clear hsz
   refine (T.out W (h.below hBW)).mono ?_
   rintro e w1 ⟨rfl, hb1⟩
   have hb1 : Below w.heap.size w w1 := hBW.trans (hb1.mono hBW.size)
   go_wp2
   go_ret
   exact ⟨rfl, hb1⟩

set_option maxHeartbeats 2000000 in
theorem umax_raw (bus mn up dn start idle spin on : Int) (A : Option Addr) (n c : Nat) (l : List (Int × Int)) (w : World) (h : StAt w A n l) (hm : n ≤ 1000000000000) :
  Calls Tryz.prog 45 #[.agg #[.int .i64 bus, .int .i64 mn, .slice A n c, .int .i64 up, .int .i64 dn, .int .i64 start, .int .i64 idle, .int .i64 spin, .int .i64 on]] w fun e w' => e = .returned (.int .i64 (umax ⟨bus, mn, l, up, dn, start, idle, spin, on⟩)) ∧ Below w.heap.size w w' := by
 have T := fun W hW => checkOffer_any A n c l W hW hm
 have TS := fun W hW => sum_any A n c l W hW hm
 unfold umax
 simp only
 by_cases h3 : chk true l = 0
 ·rw [if_pos h3]
  rw [sumS_offer h3] at TS
  rw [h3] at T
  generalize qsum l = qs at *
  have T := Lib.hid T
  have TS := Lib.hid TS
  clear h3
  go_enter Tryz.func45, Tryz.ntmps45
  go_wp2_with fail
  obtain ⟨hB0, hBW, hsz⟩ := pre1 w 48 #[.int .i64 bus, .int .i64 mn, .slice A n c, .int .i64 up, .int .i64 dn, .int .i64 start, .int .i64 idle, .int .i64 spin, .int .i64 on]
  generalize w.alloc (.cells #[.int .i64 bus, .int .i64 mn, .slice A n c, .int .i64 up, .int .i64 dn, .int .i64 start, .int .i64 idle, .int .i64 spin, .int .i64 on] 48) = W at *
  have HSZ := Lib.hid hsz
  clear hsz
  refine (T.out W (h.below hBW)).mono ?_
  rintro e w1 ⟨rfl, hb1⟩
  have hB0 := hB0.below hb1 hB0.lt
  have hb1 : Below w.heap.size w w1 := hBW.trans (hb1.mono hBW.size)
  obtain ⟨c0, c1, c2, c3, c4, c5, c6, c7, c8⟩ := hB0.nine
  clear hBW HSZ hB0
  go_wp2_with fail
  refine (TS.out w1 (h.below hb1)).mono ?_
  rintro e w2 ⟨rfl, hb2⟩
  clear c0 c1 c2 c3 c4 c5 c6 c7 c8
  go_wp2
  go_ret
  exact ⟨rfl, hb1.trans (hb2.mono hb1.size)⟩
 ·rw [if_neg h3]
  generalize chk true l = x at *
  have hx : (x != 0) = true := by simpa using h3
  have T := Lib.hid T
  clear h3 TS
  go_enter Tryz.func45, Tryz.ntmps45
  go_wp2_with fail
  obtain ⟨hB0, hBW, hsz⟩ := pre1 w 48 #[.int .i64 bus, .int .i64 mn, .slice A n c, .int .i64 up, .int .i64 dn, .int .i64 start, .int .i64 idle, .int .i64 spin, .int .i64 on]
  generalize w.alloc (.cells #[.int .i64 bus, .int .i64 mn, .slice A n c, .int .i64 up, .int .i64 dn, .int .i64 start, .int .i64 idle, .int .i64 spin, .int .i64 on] 48) = W at *
  have HSZ := Lib.hid hsz
  clear hsz
  refine (T.out W (h.below hBW)).mono ?_
  rintro e w1 ⟨rfl, hb1⟩
  have hb1 : Below w.heap.size w w1 := hBW.trans (hb1.mono hBW.size)
  go_wp2
  go_ret
  exact ⟨rfl, hb1⟩

end Go.Proofs.YtodkhjihkkmplaaGreat
