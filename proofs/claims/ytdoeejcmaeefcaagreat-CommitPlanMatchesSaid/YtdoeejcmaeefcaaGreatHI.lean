/-
Contracts of package unit: Check and Max. Contracts of package energy: Check and Range. No statement of the seat is proved here; no conditions beyond those of each theorem.
-/
import Derived.Test.YtdoeejcmaeefcaaGreatJS1
namespace Go.Proofs.YtdoeejcmaeefcaaGreat
set_option linter.unusedVariables false
set_option linter.unusedSimpArgs false
open Go.RowKit
open Wd

/-- A generating unit. -/
structure Un where
  bus : Int
  mn : Int
  st : List (Int × Int)
  up : Int
  dn : Int
  start : Int
  idle : Int
  spin : Int
  on : Int

/-- The unit's value, its steps at A. -/
def Un.cells (u : Un) (A : Option Addr) (c : Nat) : Array Value := #[.int .i64 u.bus, .int .i64 u.mn, .slice A u.st.length c, .int .i64 u.up, .int .i64 u.dn, .int .i64 u.start, .int .i64 u.idle, .int .i64 u.spin, .int .i64 u.on]

def uRest (up dn start idle spin on : Int) : Prop := up < 1 ∨ 6 < up ∨ dn < 1 ∨ 6 < dn ∨ start < 0 ∨ 1000000000 < start ∨ idle < 0 ∨ 1000000000 < idle ∨ spin < 0 ∨ 1000000 < spin ∨ on = 0 ∨ on < -6 ∨ 6 < on
instance (up dn start idle spin on : Int) : Decidable (uRest up dn start idle spin on) := by unfold uRest; infer_instance
/-- The error of a unit in a network of six buses. -/
def uchk (u : Un) : Int := if u.bus < 0 ∨ 6 ≤ u.bus then 1 else if chk true u.st ≠ 0 then chk true u.st else if u.mn < 0 ∨ qsum u.st < u.mn then 1 else if uRest u.up u.dn u.start u.idle u.spin u.on then 1 else 0
/-- The maximum output. -/
def umax (u : Un) : Int := if chk true u.st = 0 then qsum u.st else 0

theorem sumS_offer {l : List (Int × Int)} (h : chk true l = 0) : sumS l = qsum l := by
  unfold sumS curveE
  by_cases h0 : chk false l = 0
  · rw [if_pos h0, if_pos rfl]
  · rw [if_neg h0, if_pos h]

section
variable {w : World} {g : Nat} {t : TypeId} {a0 a1 a2 a3 a4 a5 a6 a7 a8 : Value}
theorem Blk.nine (h : Blk w g t #[a0, a1, a2, a3, a4, a5, a6, a7, a8]) : w.cell? ⟨g, 0, none⟩ = some a0 ∧ w.cell? ⟨g, 1, none⟩ = some a1 ∧ w.cell? ⟨g, 2, none⟩ = some a2 ∧ w.cell? ⟨g, 3, none⟩ = some a3 ∧ w.cell? ⟨g, 4, none⟩ = some a4 ∧ w.cell? ⟨g, 5, none⟩ = some a5 ∧ w.cell? ⟨g, 6, none⟩ = some a6 ∧ w.cell? ⟨g, 7, none⟩ = some a7 ∧ w.cell? ⟨g, 8, none⟩ = some a8 :=
  ⟨h.cell 0, h.cell 1, h.cell 2, h.cell 3, h.cell 4, h.cell 5, h.cell 6, h.cell 7, h.cell 8⟩
end

theorem uRest_cases {up dn start idle spin on : Int} (h : uRest up dn start idle spin on) : (up < 1) ∨ (¬ up < 1 ∧ 6 < up) ∨ (¬ up < 1 ∧ ¬ 6 < up ∧ dn < 1) ∨ (¬ up < 1 ∧ ¬ 6 < up ∧ ¬ dn < 1 ∧ 6 < dn) ∨ (¬ up < 1 ∧ ¬ 6 < up ∧ ¬ dn < 1 ∧ ¬ 6 < dn ∧ start < 0) ∨ (¬ up < 1 ∧ ¬ 6 < up ∧ ¬ dn < 1 ∧ ¬ 6 < dn ∧ ¬ start < 0 ∧ 1000000000 < start) ∨ (¬ up < 1 ∧ ¬ 6 < up ∧ ¬ dn < 1 ∧ ¬ 6 < dn ∧ ¬ start < 0 ∧ ¬ 1000000000 < start ∧ idle < 0) ∨ (¬ up < 1 ∧ ¬ 6 < up ∧ ¬ dn < 1 ∧ ¬ 6 < dn ∧ ¬ start < 0 ∧ ¬ 1000000000 < start ∧ ¬ idle < 0 ∧ 1000000000 < idle) ∨ (¬ up < 1 ∧ ¬ 6 < up ∧ ¬ dn < 1 ∧ ¬ 6 < dn ∧ ¬ start < 0 ∧ ¬ 1000000000 < start ∧ ¬ idle < 0 ∧ ¬ 1000000000 < idle ∧ spin < 0) ∨ (¬ up < 1 ∧ ¬ 6 < up ∧ ¬ dn < 1 ∧ ¬ 6 < dn ∧ ¬ start < 0 ∧ ¬ 1000000000 < start ∧ ¬ idle < 0 ∧ ¬ 1000000000 < idle ∧ ¬ spin < 0 ∧ 1000000 < spin) ∨ (¬ up < 1 ∧ ¬ 6 < up ∧ ¬ dn < 1 ∧ ¬ 6 < dn ∧ ¬ start < 0 ∧ ¬ 1000000000 < start ∧ ¬ idle < 0 ∧ ¬ 1000000000 < idle ∧ ¬ spin < 0 ∧ ¬ 1000000 < spin ∧ on = 0) ∨ (¬ up < 1 ∧ ¬ 6 < up ∧ ¬ dn < 1 ∧ ¬ 6 < dn ∧ ¬ start < 0 ∧ ¬ 1000000000 < start ∧ ¬ idle < 0 ∧ ¬ 1000000000 < idle ∧ ¬ spin < 0 ∧ ¬ 1000000 < spin ∧ ¬ on = 0 ∧ on < -6) ∨ (¬ up < 1 ∧ ¬ 6 < up ∧ ¬ dn < 1 ∧ ¬ 6 < dn ∧ ¬ start < 0 ∧ ¬ 1000000000 < start ∧ ¬ idle < 0 ∧ ¬ 1000000000 < idle ∧ ¬ spin < 0 ∧ ¬ 1000000 < spin ∧ ¬ on = 0 ∧ ¬ on < -6 ∧ 6 < on) := by
  by_cases g0 : up < 1
  · exact Or.inl g0
  right
  by_cases g1 : 6 < up
  · exact Or.inl ⟨g0, g1⟩
  right
  by_cases g2 : dn < 1
  · exact Or.inl ⟨g0, g1, g2⟩
  right
  by_cases g3 : 6 < dn
  · exact Or.inl ⟨g0, g1, g2, g3⟩
  right
  by_cases g4 : start < 0
  · exact Or.inl ⟨g0, g1, g2, g3, g4⟩
  right
  by_cases g5 : 1000000000 < start
  · exact Or.inl ⟨g0, g1, g2, g3, g4, g5⟩
  right
  by_cases g6 : idle < 0
  · exact Or.inl ⟨g0, g1, g2, g3, g4, g5, g6⟩
  right
  by_cases g7 : 1000000000 < idle
  · exact Or.inl ⟨g0, g1, g2, g3, g4, g5, g6, g7⟩
  right
  by_cases g8 : spin < 0
  · exact Or.inl ⟨g0, g1, g2, g3, g4, g5, g6, g7, g8⟩
  right
  by_cases g9 : 1000000 < spin
  · exact Or.inl ⟨g0, g1, g2, g3, g4, g5, g6, g7, g8, g9⟩
  right
  by_cases g10 : on = 0
  · exact Or.inl ⟨g0, g1, g2, g3, g4, g5, g6, g7, g8, g9, g10⟩
  right
  by_cases g11 : on < -6
  · exact Or.inl ⟨g0, g1, g2, g3, g4, g5, g6, g7, g8, g9, g10, g11⟩
  right
  refine ⟨g0, g1, g2, g3, g4, g5, g6, g7, g8, g9, g10, g11, ?_⟩
  rcases h with h | h | h | h | h | h | h | h | h | h | h | h | h
  · exact absurd h g0
  · exact absurd h g1
  · exact absurd h g2
  · exact absurd h g3
  · exact absurd h g4
  · exact absurd h g5
  · exact absurd h g6
  · exact absurd h g7
  · exact absurd h g8
  · exact absurd h g9
  · exact absurd h g10
  · exact absurd h g11
  · exact h
theorem uRest_none {up dn start idle spin on : Int} (h : ¬ uRest up dn start idle spin on) : ¬ up < 1 ∧ ¬ 6 < up ∧ ¬ dn < 1 ∧ ¬ 6 < dn ∧ ¬ start < 0 ∧ ¬ 1000000000 < start ∧ ¬ idle < 0 ∧ ¬ 1000000000 < idle ∧ ¬ spin < 0 ∧ ¬ 1000000 < spin ∧ ¬ on = 0 ∧ ¬ on < -6 ∧ ¬ 6 < on := by
  unfold uRest at h
  simp only [not_or] at h
  exact h

set_option maxRecDepth 100000 in
set_option maxHeartbeats 8000000 in
theorem ucheck_raw (bus mn up dn start idle spin on : Int) (A : Option Addr) (n c : Nat) (l : List (Int × Int)) (w : World) (h : StAt w A n l) (hm : n ≤ 1000000000000) :
    Calls Tryz.prog 23 #[.agg #[.int .i64 bus, .int .i64 mn, .slice A n c, .int .i64 up, .int .i64 dn, .int .i64 start, .int .i64 idle, .int .i64 spin, .int .i64 on], .int .i64 6] w fun e w' => e = .returned (.int .i64 (uchk ⟨bus, mn, l, up, dn, start, idle, spin, on⟩)) ∧ Below w.heap.size w w' := by
  by_cases h1 : bus < 0 ∨ 6 ≤ bus
  · have e : uchk ⟨bus, mn, l, up, dn, start, idle, spin, on⟩ = 1 := by unfold uchk; rw [if_pos h1]
    rw [e]
    have h2 : bus < 0 ∨ (¬ bus < 0 ∧ 6 ≤ bus) := by omega
    clear e h1
    rcases h2 with g1 | ⟨g1, g2⟩
    all_goals
      go_enter Tryz.func23, Tryz.ntmps23
      go_wp2
      go_ret
      exact ⟨rfl, (Below.refl _ _).alloc (Nat.le_refl _) _⟩
  · have g1 : ¬ bus < 0 := by omega
    have g2 : ¬ 6 ≤ bus := by omega
    have T := fun W hW => checkOffer_any A n c l W hW hm
    by_cases h3 : chk true l = 0
    · have e3 : uchk ⟨bus, mn, l, up, dn, start, idle, spin, on⟩ = if mn < 0 ∨ qsum l < mn then 1 else if uRest up dn start idle spin on then 1 else 0 := by
        unfold uchk; rw [if_neg h1, if_neg (by intro hh; exact hh h3)]
      rw [e3]
      have TS := fun W hW => sum_any A n c l W hW hm
      rw [sumS_offer h3] at TS
      rw [h3] at T
      generalize qsum l = qs at *
      have T := Lib.hid T
      have TS := Lib.hid TS
      clear h3 e3 h1
      by_cases h4 : mn < 0 ∨ qs < mn
      · rw [if_pos h4]
        have h5 : mn < 0 ∨ (¬ mn < 0 ∧ qs < mn) := by omega
        clear h4
        rcases h5 with k1 | ⟨k1, k2⟩
        · have hd : decide (mn < 0) = true := by simpa using k1
          go_enter Tryz.func23, Tryz.ntmps23
          go_wp2_with fail
          have hB0 := Blk.new w 39 #[.int .i64 bus, .int .i64 mn, .slice A n c, .int .i64 up, .int .i64 dn, .int .i64 start, .int .i64 idle, .int .i64 spin, .int .i64 on]
          have hBW : Below w.heap.size w (w.alloc (.cells #[.int .i64 bus, .int .i64 mn, .slice A n c, .int .i64 up, .int .i64 dn, .int .i64 start, .int .i64 idle, .int .i64 spin, .int .i64 on] 39)) := (Below.refl _ _).alloc (Nat.le_refl _) _
          have hsz : (w.alloc (.cells #[.int .i64 bus, .int .i64 mn, .slice A n c, .int .i64 up, .int .i64 dn, .int .i64 start, .int .i64 idle, .int .i64 spin, .int .i64 on] 39)).heap.size = w.heap.size + 1 := by simp
          generalize w.alloc (.cells #[.int .i64 bus, .int .i64 mn, .slice A n c, .int .i64 up, .int .i64 dn, .int .i64 start, .int .i64 idle, .int .i64 spin, .int .i64 on] 39) = W at *
          have HSZ := Lib.hid hsz
          clear hsz
          refine (T.out W (h.below hBW)).mono ?_
          rintro e w1 ⟨rfl, hb1⟩
          have hB0 := hB0.below hb1 hB0.lt
          have hb1 : Below w.heap.size w w1 := hBW.trans (hb1.mono hBW.size)
          obtain ⟨c0, c1, c2, c3, c4, c5, c6, c7, c8⟩ := hB0.nine
          clear hBW HSZ
          go_wp2_with fail
          go_quiet (fail)
          go_wp2
          go_ret
          exact ⟨rfl, below_drewN hb1 _⟩
        · have hd : decide (mn < 0) = false := by simpa using k1
          go_enter Tryz.func23, Tryz.ntmps23
          go_wp2_with fail
          have hB0 := Blk.new w 39 #[.int .i64 bus, .int .i64 mn, .slice A n c, .int .i64 up, .int .i64 dn, .int .i64 start, .int .i64 idle, .int .i64 spin, .int .i64 on]
          have hBW : Below w.heap.size w (w.alloc (.cells #[.int .i64 bus, .int .i64 mn, .slice A n c, .int .i64 up, .int .i64 dn, .int .i64 start, .int .i64 idle, .int .i64 spin, .int .i64 on] 39)) := (Below.refl _ _).alloc (Nat.le_refl _) _
          have hsz : (w.alloc (.cells #[.int .i64 bus, .int .i64 mn, .slice A n c, .int .i64 up, .int .i64 dn, .int .i64 start, .int .i64 idle, .int .i64 spin, .int .i64 on] 39)).heap.size = w.heap.size + 1 := by simp
          generalize w.alloc (.cells #[.int .i64 bus, .int .i64 mn, .slice A n c, .int .i64 up, .int .i64 dn, .int .i64 start, .int .i64 idle, .int .i64 spin, .int .i64 on] 39) = W at *
          have HSZ := Lib.hid hsz
          clear hsz
          refine (T.out W (h.below hBW)).mono ?_
          rintro e w1 ⟨rfl, hb1⟩
          have hB0 := hB0.below hb1 hB0.lt
          have hb1 : Below w.heap.size w w1 := hBW.trans (hb1.mono hBW.size)
          obtain ⟨c0, c1, c2, c3, c4, c5, c6, c7, c8⟩ := hB0.nine
          clear hBW HSZ
          have s5 := Kp.refl w1
          go_wp2_with fail
          have hS : ∀ w', Kp w1 w' → (w'.cell? ⟨w.heap.size, 1, none⟩ = some (.int .i64 mn) ∧ w'.cell? ⟨w.heap.size, 2, none⟩ = some (.slice A n c)) ∧ Kp w1 w' := fun w' hk => ⟨⟨(hk.blk hB0).cell 1, (hk.blk hB0).cell 2⟩, hk⟩
          have HS := Lib.hid hS
          clear hS
          go_region_held3 (fun w' => (w'.cell? ⟨w.heap.size, 1, none⟩ = some (.int .i64 mn) ∧ w'.cell? ⟨w.heap.size, 2, none⟩ = some (.slice A n c)) ∧ Kp w1 w')
            (first | (with_reducible refine HS.out _ ?_; with_reducible assumption) | (with_reducible refine HS.out _ (Kp.drew ?_); with_reducible assumption) | (with_reducible refine' HS.out _ (Kp.drew (And.right ?_)); rotate_left; with_reducible assumption))
            (first
              | (go_at_call 45; have hk := And.right ‹_ ∧ Kp w1 _›; refine (TS.out _ ((h.below hb1).below hk)).mono ?_; rintro e v1 ⟨rfl, hbv⟩; have hr1 := hk.trans hbv; clear hbv))
          have hb2 : Below w.heap.size w v1 := hb1.trans (Below.mono hr1 hb1.size)
          go_wp2
          go_ret
          exact ⟨rfl, hb2⟩
      · rw [if_neg h4]
        have k1 : ¬ mn < 0 := by omega
        have k2 : ¬ qs < mn := by omega
        have hd : decide (mn < 0) = false := by simpa using k1
        clear h4
        by_cases h6 : uRest up dn start idle spin on
        · rw [if_pos h6]
          have h7 := uRest_cases h6
          clear h6
          go_enter Tryz.func23, Tryz.ntmps23
          go_wp2_with fail
          have hB0 := Blk.new w 39 #[.int .i64 bus, .int .i64 mn, .slice A n c, .int .i64 up, .int .i64 dn, .int .i64 start, .int .i64 idle, .int .i64 spin, .int .i64 on]
          have hBW : Below w.heap.size w (w.alloc (.cells #[.int .i64 bus, .int .i64 mn, .slice A n c, .int .i64 up, .int .i64 dn, .int .i64 start, .int .i64 idle, .int .i64 spin, .int .i64 on] 39)) := (Below.refl _ _).alloc (Nat.le_refl _) _
          have hsz : (w.alloc (.cells #[.int .i64 bus, .int .i64 mn, .slice A n c, .int .i64 up, .int .i64 dn, .int .i64 start, .int .i64 idle, .int .i64 spin, .int .i64 on] 39)).heap.size = w.heap.size + 1 := by simp
          generalize w.alloc (.cells #[.int .i64 bus, .int .i64 mn, .slice A n c, .int .i64 up, .int .i64 dn, .int .i64 start, .int .i64 idle, .int .i64 spin, .int .i64 on] 39) = W at *
          have HSZ := Lib.hid hsz
          clear hsz
          refine (T.out W (h.below hBW)).mono ?_
          rintro e w1 ⟨rfl, hb1⟩
          have hB0 := hB0.below hb1 hB0.lt
          have hb1 : Below w.heap.size w w1 := hBW.trans (hb1.mono hBW.size)
          obtain ⟨c0, c1, c2, c3, c4, c5, c6, c7, c8⟩ := hB0.nine
          clear hBW HSZ
          have s5 := Kp.refl w1
          have H7 := Lib.hid h7
          clear h7
          go_wp2_with fail
          have hS : ∀ w', Kp w1 w' → (w'.cell? ⟨w.heap.size, 1, none⟩ = some (.int .i64 mn) ∧ w'.cell? ⟨w.heap.size, 2, none⟩ = some (.slice A n c)) ∧ Kp w1 w' := fun w' hk => ⟨⟨(hk.blk hB0).cell 1, (hk.blk hB0).cell 2⟩, hk⟩
          have HS := Lib.hid hS
          clear hS
          go_region_held3 (fun w' => (w'.cell? ⟨w.heap.size, 1, none⟩ = some (.int .i64 mn) ∧ w'.cell? ⟨w.heap.size, 2, none⟩ = some (.slice A n c)) ∧ Kp w1 w')
            (first | (with_reducible refine HS.out _ ?_; with_reducible assumption) | (with_reducible refine HS.out _ (Kp.drew ?_); with_reducible assumption) | (with_reducible refine' HS.out _ (Kp.drew (And.right ?_)); rotate_left; with_reducible assumption))
            (first
              | (go_at_call 45; have hk := And.right ‹_ ∧ Kp w1 _›; refine (TS.out _ ((h.below hb1).below hk)).mono ?_; rintro e v1 ⟨rfl, hbv⟩; have hr1 := hk.trans hbv; clear hbv))
          have hb2 : Below w.heap.size w v1 := hb1.trans (Below.mono hr1 hb1.size)
          have hB9 := Kp.blk hr1 hB0
          clear c0 c1 c2 c3 c4 c5 c6 c7 c8 hB0 hb1 s5 HS T TS h
          obtain ⟨c0, c1, c2, c3, c4, c5, c6, c7, c8⟩ := hB9.nine
          clear hB9 hr1
          rcases H7.out with g0 | ⟨g0, g1⟩ | ⟨g0, g1, g2⟩ | ⟨g0, g1, g2, g3⟩ | ⟨g0, g1, g2, g3, g4⟩ | ⟨g0, g1, g2, g3, g4, g5⟩ | ⟨g0, g1, g2, g3, g4, g5, g6⟩ | ⟨g0, g1, g2, g3, g4, g5, g6, g7⟩ | ⟨g0, g1, g2, g3, g4, g5, g6, g7, g8⟩ | ⟨g0, g1, g2, g3, g4, g5, g6, g7, g8, g9⟩ | ⟨g0, g1, g2, g3, g4, g5, g6, g7, g8, g9, g10⟩ | ⟨g0, g1, g2, g3, g4, g5, g6, g7, g8, g9, g10, g11⟩ | ⟨g0, g1, g2, g3, g4, g5, g6, g7, g8, g9, g10, g11, g12⟩
          all_goals
            (try (rename_i g10; have hon : (on == 0) = false := by simpa using g10))
            clear H7
            go_wp2
            go_ret
            exact ⟨rfl, hb2⟩
        · rw [if_neg h6]
          have h7 := uRest_none h6
          obtain ⟨g0, g1, g2, g3, g4, g5, g6, g7, g8, g9, g10, g11, g12⟩ := h7
          have hon : (on == 0) = false := by simpa using g10
          clear h6
          go_enter Tryz.func23, Tryz.ntmps23
          go_wp2_with fail
          have hB0 := Blk.new w 39 #[.int .i64 bus, .int .i64 mn, .slice A n c, .int .i64 up, .int .i64 dn, .int .i64 start, .int .i64 idle, .int .i64 spin, .int .i64 on]
          have hBW : Below w.heap.size w (w.alloc (.cells #[.int .i64 bus, .int .i64 mn, .slice A n c, .int .i64 up, .int .i64 dn, .int .i64 start, .int .i64 idle, .int .i64 spin, .int .i64 on] 39)) := (Below.refl _ _).alloc (Nat.le_refl _) _
          have hsz : (w.alloc (.cells #[.int .i64 bus, .int .i64 mn, .slice A n c, .int .i64 up, .int .i64 dn, .int .i64 start, .int .i64 idle, .int .i64 spin, .int .i64 on] 39)).heap.size = w.heap.size + 1 := by simp
          generalize w.alloc (.cells #[.int .i64 bus, .int .i64 mn, .slice A n c, .int .i64 up, .int .i64 dn, .int .i64 start, .int .i64 idle, .int .i64 spin, .int .i64 on] 39) = W at *
          have HSZ := Lib.hid hsz
          clear hsz
          refine (T.out W (h.below hBW)).mono ?_
          rintro e w1 ⟨rfl, hb1⟩
          have hB0 := hB0.below hb1 hB0.lt
          have hb1 : Below w.heap.size w w1 := hBW.trans (hb1.mono hBW.size)
          obtain ⟨c0, c1, c2, c3, c4, c5, c6, c7, c8⟩ := hB0.nine
          clear hBW HSZ
          have s5 := Kp.refl w1
          go_wp2_with fail
          have hS : ∀ w', Kp w1 w' → (w'.cell? ⟨w.heap.size, 1, none⟩ = some (.int .i64 mn) ∧ w'.cell? ⟨w.heap.size, 2, none⟩ = some (.slice A n c)) ∧ Kp w1 w' := fun w' hk => ⟨⟨(hk.blk hB0).cell 1, (hk.blk hB0).cell 2⟩, hk⟩
          have HS := Lib.hid hS
          clear hS
          go_region_held3 (fun w' => (w'.cell? ⟨w.heap.size, 1, none⟩ = some (.int .i64 mn) ∧ w'.cell? ⟨w.heap.size, 2, none⟩ = some (.slice A n c)) ∧ Kp w1 w')
            (first | (with_reducible refine HS.out _ ?_; with_reducible assumption) | (with_reducible refine HS.out _ (Kp.drew ?_); with_reducible assumption) | (with_reducible refine' HS.out _ (Kp.drew (And.right ?_)); rotate_left; with_reducible assumption))
            (first
              | (go_at_call 45; have hk := And.right ‹_ ∧ Kp w1 _›; refine (TS.out _ ((h.below hb1).below hk)).mono ?_; rintro e v1 ⟨rfl, hbv⟩; have hr1 := hk.trans hbv; clear hbv))
          have hb2 : Below w.heap.size w v1 := hb1.trans (Below.mono hr1 hb1.size)
          have hB9 := Kp.blk hr1 hB0
          clear c0 c1 c2 c3 c4 c5 c6 c7 c8 hB0 hb1 s5 HS T TS h
          obtain ⟨c0, c1, c2, c3, c4, c5, c6, c7, c8⟩ := hB9.nine
          clear hB9 hr1
          go_wp2
          go_ret
          exact ⟨rfl, hb2⟩
    · have e3 : uchk ⟨bus, mn, l, up, dn, start, idle, spin, on⟩ = chk true l := by
        unfold uchk; rw [if_neg h1, if_pos h3]
      rw [e3]
      generalize chk true l = x at *
      have hx : (x != 0) = true := by simpa using h3
      have T := Lib.hid T
      clear h3 e3 h1
      go_enter Tryz.func23, Tryz.ntmps23
      go_wp2_with fail
      have hB0 := Blk.new w 39 #[.int .i64 bus, .int .i64 mn, .slice A n c, .int .i64 up, .int .i64 dn, .int .i64 start, .int .i64 idle, .int .i64 spin, .int .i64 on]
      have hBW : Below w.heap.size w (w.alloc (.cells #[.int .i64 bus, .int .i64 mn, .slice A n c, .int .i64 up, .int .i64 dn, .int .i64 start, .int .i64 idle, .int .i64 spin, .int .i64 on] 39)) := (Below.refl _ _).alloc (Nat.le_refl _) _
      have hsz : (w.alloc (.cells #[.int .i64 bus, .int .i64 mn, .slice A n c, .int .i64 up, .int .i64 dn, .int .i64 start, .int .i64 idle, .int .i64 spin, .int .i64 on] 39)).heap.size = w.heap.size + 1 := by simp
      generalize w.alloc (.cells #[.int .i64 bus, .int .i64 mn, .slice A n c, .int .i64 up, .int .i64 dn, .int .i64 start, .int .i64 idle, .int .i64 spin, .int .i64 on] 39) = W at *
      have HSZ := Lib.hid hsz
      clear hsz
      refine (T.out W (h.below hBW)).mono ?_
      rintro e w1 ⟨rfl, hb1⟩
      have hb1 : Below w.heap.size w w1 := hBW.trans (hb1.mono hBW.size)
      go_wp2
      go_ret
      exact ⟨rfl, hb1⟩

set_option maxHeartbeats 2000000 in
theorem umax_raw (bus mn up dn start idle spin on : Int) (A : Option Addr) (n c : Nat) (l : List (Int × Int)) (w : World) (h : StAt w A n l) (hm : n ≤ 1000000000000) :
    Calls Tryz.prog 64 #[.agg #[.int .i64 bus, .int .i64 mn, .slice A n c, .int .i64 up, .int .i64 dn, .int .i64 start, .int .i64 idle, .int .i64 spin, .int .i64 on]] w fun e w' => e = .returned (.int .i64 (umax ⟨bus, mn, l, up, dn, start, idle, spin, on⟩)) ∧ Below w.heap.size w w' := by
  have T := fun W hW => checkOffer_any A n c l W hW hm
  have TS := fun W hW => sum_any A n c l W hW hm
  unfold umax
  simp only
  by_cases h3 : chk true l = 0
  · rw [if_pos h3]
    rw [sumS_offer h3] at TS
    rw [h3] at T
    generalize qsum l = qs at *
    have T := Lib.hid T
    have TS := Lib.hid TS
    clear h3
    go_enter Tryz.func64, Tryz.ntmps64
    go_wp2_with fail
    have hB0 := Blk.new w 39 #[.int .i64 bus, .int .i64 mn, .slice A n c, .int .i64 up, .int .i64 dn, .int .i64 start, .int .i64 idle, .int .i64 spin, .int .i64 on]
    have hBW : Below w.heap.size w (w.alloc (.cells #[.int .i64 bus, .int .i64 mn, .slice A n c, .int .i64 up, .int .i64 dn, .int .i64 start, .int .i64 idle, .int .i64 spin, .int .i64 on] 39)) := (Below.refl _ _).alloc (Nat.le_refl _) _
    have hsz : (w.alloc (.cells #[.int .i64 bus, .int .i64 mn, .slice A n c, .int .i64 up, .int .i64 dn, .int .i64 start, .int .i64 idle, .int .i64 spin, .int .i64 on] 39)).heap.size = w.heap.size + 1 := by simp
    generalize w.alloc (.cells #[.int .i64 bus, .int .i64 mn, .slice A n c, .int .i64 up, .int .i64 dn, .int .i64 start, .int .i64 idle, .int .i64 spin, .int .i64 on] 39) = W at *
    have HSZ := Lib.hid hsz
    clear hsz
    refine (T.out W (h.below hBW)).mono ?_
    rintro e w1 ⟨rfl, hb1⟩
    have hB0 := hB0.below hb1 hB0.lt
    have hb1 : Below w.heap.size w w1 := hBW.trans (hb1.mono hBW.size)
    obtain ⟨c0, c1, c2, c3, c4, c5, c6, c7, c8⟩ := hB0.nine
    clear hBW HSZ hB0
    go_wp2_with fail
    refine (TS.out w1 (h.below hb1)).mono ?_
    rintro e w2 ⟨rfl, hb2⟩
    clear c0 c1 c2 c3 c4 c5 c6 c7 c8
    go_wp2
    go_ret
    exact ⟨rfl, hb1.trans (hb2.mono hb1.size)⟩
  · rw [if_neg h3]
    generalize chk true l = x at *
    have hx : (x != 0) = true := by simpa using h3
    have T := Lib.hid T
    clear h3 TS
    go_enter Tryz.func64, Tryz.ntmps64
    go_wp2_with fail
    have hB0 := Blk.new w 39 #[.int .i64 bus, .int .i64 mn, .slice A n c, .int .i64 up, .int .i64 dn, .int .i64 start, .int .i64 idle, .int .i64 spin, .int .i64 on]
    have hBW : Below w.heap.size w (w.alloc (.cells #[.int .i64 bus, .int .i64 mn, .slice A n c, .int .i64 up, .int .i64 dn, .int .i64 start, .int .i64 idle, .int .i64 spin, .int .i64 on] 39)) := (Below.refl _ _).alloc (Nat.le_refl _) _
    have hsz : (w.alloc (.cells #[.int .i64 bus, .int .i64 mn, .slice A n c, .int .i64 up, .int .i64 dn, .int .i64 start, .int .i64 idle, .int .i64 spin, .int .i64 on] 39)).heap.size = w.heap.size + 1 := by simp
    generalize w.alloc (.cells #[.int .i64 bus, .int .i64 mn, .slice A n c, .int .i64 up, .int .i64 dn, .int .i64 start, .int .i64 idle, .int .i64 spin, .int .i64 on] 39) = W at *
    have HSZ := Lib.hid hsz
    clear hsz
    refine (T.out W (h.below hBW)).mono ?_
    rintro e w1 ⟨rfl, hb1⟩
    have hb1 : Below w.heap.size w w1 := hBW.trans (hb1.mono hBW.size)
    go_wp2
    go_ret
    exact ⟨rfl, hb1⟩

end Go.Proofs.YtdoeejcmaeefcaaGreat

namespace Go.Proofs.YtdoeejcmaeefcaaGreat
set_option linter.unusedVariables false
set_option linter.unusedSimpArgs false
open Go.RowKit
open Wd

def U0 : Un := ⟨0, 0, [], 0, 0, 0, 0, 0, 0⟩
/-- The nine cells from offset o on are the unit u. -/
def UnCells (w : World) (b o : Nat) (u : Un) : Prop := ∃ A' n' c', (w.cell? ⟨b, o, none⟩ = some (.int .i64 u.bus) ∧ w.cell? ⟨b, o + 1, none⟩ = some (.int .i64 u.mn) ∧ w.cell? ⟨b, o + 2, none⟩ = some (.slice A' n' c') ∧ w.cell? ⟨b, o + 3, none⟩ = some (.int .i64 u.up) ∧ w.cell? ⟨b, o + 4, none⟩ = some (.int .i64 u.dn) ∧ w.cell? ⟨b, o + 5, none⟩ = some (.int .i64 u.start) ∧ w.cell? ⟨b, o + 6, none⟩ = some (.int .i64 u.idle) ∧ w.cell? ⟨b, o + 7, none⟩ = some (.int .i64 u.spin) ∧ w.cell? ⟨b, o + 8, none⟩ = some (.int .i64 u.on)) ∧ StAt w A' n' u.st ∧ n' ≤ 1000000000000
/-- The slice value with address A and length n reads as the units us. -/
def UsAt (w : World) (A : Option Addr) (n : Nat) (us : List Un) : Prop :=
  us.length = n ∧ (n ≠ 0 → ∃ b o, A = some ⟨b, o, none⟩ ∧ b < w.heap.size ∧ ∀ j, j < n → UnCells w b (o + j * 9) (us[j]?.getD U0))
/-- The slice value reads as the booleans bs. -/
def BsAt (w : World) (A : Option Addr) (n : Nat) (bs : List Bool) : Prop :=
  bs.length = n ∧ (n ≠ 0 → ∃ b o, A = some ⟨b, o, none⟩ ∧ b < w.heap.size ∧ ∀ j, j < n → w.cell? ⟨b, o + j, none⟩ = some (.bool (bs[j]?.getD false)))
theorem UnCells.below {w w' : World} {b o : Nat} {u : Un} (h : UnCells w b o u) (hlt : b < w.heap.size) (hb : Below w.heap.size w w') : UnCells w' b o u := by
  obtain ⟨A', n', c', ⟨h0, h1, h2, h3, h4, h5, h6, h7, h8⟩, hs, hn⟩ := h
  exact ⟨A', n', c', ⟨(hb.cell hlt).trans h0, (hb.cell hlt).trans h1, (hb.cell hlt).trans h2, (hb.cell hlt).trans h3, (hb.cell hlt).trans h4, (hb.cell hlt).trans h5, (hb.cell hlt).trans h6, (hb.cell hlt).trans h7, (hb.cell hlt).trans h8⟩, hs.below hb, hn⟩
theorem UsAt.below {w w' : World} {A : Option Addr} {n : Nat} {us : List Un} (h : UsAt w A n us) (hb : Below w.heap.size w w') : UsAt w' A n us := by
  refine ⟨h.1, fun hn => ?_⟩
  obtain ⟨b, o, rfl, hlt, hc⟩ := h.2 hn
  exact ⟨b, o, rfl, Nat.lt_of_lt_of_le hlt hb.size, fun j hj => (hc j hj).below hlt hb⟩
theorem BsAt.below {w w' : World} {A : Option Addr} {n : Nat} {bs : List Bool} (h : BsAt w A n bs) (hb : Below w.heap.size w w') : BsAt w' A n bs := by
  refine ⟨h.1, fun hn => ?_⟩
  obtain ⟨b, o, rfl, hlt, hc⟩ := h.2 hn
  exact ⟨b, o, rfl, Nat.lt_of_lt_of_le hlt hb.size, fun j hj => (hb.cell hlt).trans (hc j hj)⟩

/-- The first unit's error. -/
def ecFrom : List Un → Int
  | [] => 0
  | u :: r => if uchk u = 0 then ecFrom r else uchk u
def echk (us : List Un) (m : Nat) : Int := if 5 < us.length then 5 else if ecFrom us ≠ 0 then ecFrom us else if m ≠ us.length then 3 else 0
theorem ecFrom_ok {u : Un} {r : List Un} (h : uchk u = 0) : ecFrom (u :: r) = ecFrom r := by rw [ecFrom, if_pos h]
theorem ecFrom_bad {u : Un} {r : List Un} (h : uchk u ≠ 0) : ecFrom (u :: r) = uchk u := by rw [ecFrom, if_neg h]
theorem dropU {l : List Un} {k : Nat} (hk : k < l.length) : l.drop k = (l[k]?.getD U0) :: l.drop (k + 1) := by
  rw [List.drop_eq_getElem_cons hk, List.getElem?_eq_getElem hk]; rfl

set_option maxRecDepth 100000 in
set_option maxHeartbeats 4000000 in
theorem echeck_any (A B : Option Addr) (n c m d : Nat) (us : List Un) (bs : List Bool) (w : World) (h : UsAt w A n us) (h' : BsAt w B m bs) (hm : n ≤ 1000000000000) (hm' : m ≤ 1000000000000) :
    Calls Tryz.prog 63 #[.slice A n c, .slice B m d] w fun e w' => e = .returned (.int .i64 (echk us m)) ∧ Below w.heap.size w w' := by
  by_cases h5 : 5 < n
  · have e : echk us m = 5 := by unfold echk; rw [if_pos (by rw [h.1]; exact h5)]
    rw [e]
    go_enter Tryz.func63, Tryz.ntmps63
    go_wp2
    go_ret
    exact ⟨rfl, Below.refl _ _⟩
  · have e : echk us m = if ecFrom us ≠ 0 then ecFrom us else if m ≠ n then 3 else 0 := by unfold echk; rw [if_neg (by rw [h.1]; exact h5), h.1]
    have HE := Lib.hid e
    obtain ⟨hl, hc⟩ := h
    have HL := Lib.hid hl
    have HC := Lib.hid hc
    clear e hl hc h'
    go_enter Tryz.func63, Tryz.ntmps63
    go_wp2_with fail
    go_loopw [13] (fun t wr => ∃ k : Nat, k ≤ n ∧ t = .int .i64 k ∧ Hid (ecFrom us = ecFrom (us.drop k)) ∧ Hid (Below w.heap.size w wr)) (fun t _ => n - (intOf t).toNat)
    case atStart => exact ⟨0, Nat.zero_le _, rfl, rfl, Below.refl _ _⟩
    case round =>
      obtain ⟨k, hk, rfl, hR, hB⟩ := hrel
      by_cases hlt : k < n
      · obtain ⟨b, o, rfl, hb, hcell⟩ := HC.out (by omega)
        have hu := (hcell k hlt).below hb hB.out
        have hdr := dropU (l := us) (k := k) (by rw [HL.out]; exact hlt)
        generalize us[k]?.getD U0 = u at *
        obtain ⟨bus, mn, st, up, dn, start, idle, spin, on⟩ := u
        obtain ⟨A', n', c', ⟨h0, h1, h2, h3, h4, h5', h6, h7, h8⟩, hs, hn'⟩ := hu
        simp only at h0 h1 h2 h3 h4 h5' h6 h7 h8 hs
        have hbr : b < wr.heap.size := Nat.lt_of_lt_of_le hb hB.out.size
        have HDR := Lib.hid hdr
        clear hdr hcell
        have T := fun W hW => ucheck_raw bus mn up dn start idle spin on A' n' c' st W hW hn'
        have hs9 := hs.below ((Below.refl _ wr).alloc (Nat.le_refl _) (.cells #[.int .i64 bus, .int .i64 mn, .slice A' n' c', .int .i64 up, .int .i64 dn, .int .i64 start, .int .i64 idle, .int .i64 spin, .int .i64 on] 39))
        have hb9 := hB.out.alloc hB.out.size (.cells #[.int .i64 bus, .int .i64 mn, .slice A' n' c', .int .i64 up, .int .i64 dn, .int .i64 start, .int .i64 idle, .int .i64 spin, .int .i64 on] 39)
        have HB9 := Lib.hid hb9
        have HS9 := Lib.hid hs9
        clear hb9 hs9
        by_cases hz : uchk ⟨bus, mn, st, up, dn, start, idle, spin, on⟩ = 0
        · have hnew : ecFrom us = ecFrom (us.drop (k + 1)) := by rw [hR.out, HDR.out]; exact ecFrom_ok hz
          rw [hz] at T
          have T := Lib.hid T
          have HN := Lib.hid hnew
          clear hz hnew
          go_wp2_with fail
          refine (T.out _ HS9.out).mono ?_
          rintro e w2 ⟨rfl, hb2⟩
          have hb3 : Below w.heap.size w w2 := HB9.out.trans (hb2.mono HB9.out.size)
          have HB3 := Lib.hid hb3
          clear hb2 hb3 h0 h1 h2 h3 h4 h5' h6 h7 h8
          go_wp2
          go_roundw
          case rel => exact ⟨k + 1, by omega, by go_num, HN.out, HB3.out⟩
          case measure => simp [intOf]; omega
        · have hx : ecFrom us = uchk ⟨bus, mn, st, up, dn, start, idle, spin, on⟩ := by rw [hR.out, HDR.out]; exact ecFrom_bad hz
          have hfin : echk us m = uchk ⟨bus, mn, st, up, dn, start, idle, spin, on⟩ := by rw [HE.out, if_pos (by rw [hx]; exact hz), hx]
          generalize uchk ⟨bus, mn, st, up, dn, start, idle, spin, on⟩ = x at *
          have hxz : (x != 0) = true := by simpa using hz
          have T := Lib.hid T
          have HF := Lib.hid hfin
          clear hz hx hfin
          go_wp2_with fail
          refine (T.out _ HS9.out).mono ?_
          rintro e w2 ⟨rfl, hb2⟩
          have hb3 : Below w.heap.size w w2 := HB9.out.trans (hb2.mono HB9.out.size)
          clear hb2 h0 h1 h2 h3 h4 h5' h6 h7 h8
          go_wp2
          go_ret
          rw [HF.out]
          exact ⟨rfl, hb3⟩
      · obtain rfl : k = n := by omega
        have hz : ecFrom us = 0 := by rw [hR.out, List.drop_of_length_le (by rw [HL.out]; exact Nat.le_refl _)]; rfl
        have hfin : echk us m = if m ≠ k then (3 : Int) else 0 := by rw [HE.out, if_neg (by rw [hz]; simp)]
        have HF := Lib.hid hfin
        clear hz hfin
        by_cases hmk : m = k
        · have hne : ((m : Int) != (k : Int)) = false := by simp; omega
          go_wp2
          go_ret
          rw [HF.out, if_neg (by omega)]
          exact ⟨rfl, hB.out⟩
        · have hne : ((m : Int) != (k : Int)) = true := by simp; omega
          go_wp2
          go_ret
          rw [HF.out, if_pos hmk]
          exact ⟨rfl, hB.out⟩

/-- The least and the greatest output of the units that are on. -/
def rmin (zs : List (Un × Bool)) : Int := (zs.map fun z => if z.2 then z.1.mn else 0).sum
def rmax (zs : List (Un × Bool)) : Int := (zs.map fun z => if z.2 then umax z.1 else 0).sum
theorem rmin_snoc (zs : List (Un × Bool)) (z : Un × Bool) : rmin (zs ++ [z]) = rmin zs + if z.2 then z.1.mn else 0 := by unfold rmin; simp
theorem rmax_snoc (zs : List (Un × Bool)) (z : Un × Bool) : rmax (zs ++ [z]) = rmax zs + if z.2 then umax z.1 else 0 := by unfold rmax; simp

theorem echk_ok {us : List Un} {m : Nat} (h : echk us m = 0) : us.length ≤ 5 ∧ m = us.length ∧ ∀ u ∈ us, uchk u = 0 := by
  unfold echk at h
  by_cases h5 : 5 < us.length
  · rw [if_pos h5] at h; cases h
  · rw [if_neg h5] at h
    by_cases he : ecFrom us ≠ 0
    · rw [if_pos he] at h; exact absurd h he
    · rw [if_neg he] at h
      have he' : ecFrom us = 0 := Classical.byContradiction he
      refine ⟨by omega, ?_, ?_⟩
      · by_cases hm : m ≠ us.length
        · rw [if_pos hm] at h; cases h
        · exact Classical.byContradiction hm
      · clear h h5 he
        induction us with
        | nil => intro u hu; cases hu
        | cons x r ih =>
          intro u hu
          by_cases hx : uchk x = 0
          · rw [ecFrom_ok hx] at he'
            rcases List.mem_cons.1 hu with rfl | hu
            · exact hx
            · exact ih he' u hu
          · rw [ecFrom_bad hx] at he'; exact absurd he' hx
theorem uchk_ok {u : Un} (h : uchk u = 0) : chk true u.st = 0 ∧ 0 ≤ u.mn ∧ u.mn ≤ qsum u.st ∧ qsum u.st ≤ 3000000 ∧ 0 ≤ qsum u.st ∧ umax u = qsum u.st := by
  unfold uchk at h
  by_cases h1 : u.bus < 0 ∨ 6 ≤ u.bus
  · rw [if_pos h1] at h; cases h
  · rw [if_neg h1] at h
    by_cases h2 : chk true u.st = 0
    · rw [if_neg (by intro hh; exact hh h2)] at h
      by_cases h3 : u.mn < 0 ∨ qsum u.st < u.mn
      · rw [if_pos h3] at h; cases h
      · obtain ⟨_, hl, _, hb⟩ := chk_ok h2
        have := qsum_bd u.st hb
        refine ⟨h2, by omega, by omega, by omega, by omega, ?_⟩
        unfold umax; rw [if_pos h2]
    · rw [if_pos h2] at h; exact absurd h h2
theorem range_bd (zs : List (Un × Bool)) (h : ∀ z ∈ zs, uchk z.1 = 0) : 0 ≤ rmin zs ∧ rmin zs ≤ rmax zs ∧ rmax zs ≤ 3000000 * zs.length := by
  induction zs with
  | nil => simp [rmin, rmax]
  | cons z r ih =>
    have h1 := ih (fun x hx => h x (List.mem_cons_of_mem _ hx))
    obtain ⟨_, h2, h3, h4, h5, h6⟩ := uchk_ok (h z (List.mem_cons_self ..))
    have e1 : rmin (z :: r) = (if z.2 then z.1.mn else 0) + rmin r := by unfold rmin; simp
    have e2 : rmax (z :: r) = (if z.2 then umax z.1 else 0) + rmax r := by unfold rmax; simp
    rw [e1, e2, List.length_cons]
    cases z.2
    · simp; omega
    · simp; omega
theorem takeZ {us : List Un} {bs : List Bool} {k : Nat} (h1 : k < us.length) (h2 : k < bs.length) : (us.zip bs).take (k + 1) = (us.zip bs).take k ++ [(us[k]?.getD U0, bs[k]?.getD false)] := by
  have hk : k < (us.zip bs).length := by rw [List.length_zip]; omega
  rw [List.take_succ_eq_append_getElem hk, List.getElem_zip, List.getElem?_eq_getElem h1, List.getElem?_eq_getElem h2]; rfl

set_option maxRecDepth 100000 in
set_option maxHeartbeats 4000000 in
theorem erange_ok (A B : Option Addr) (n c m d : Nat) (us : List Un) (bs : List Bool) (w : World) (h : UsAt w A n us) (h' : BsAt w B m bs) (hm : n ≤ 1000000000000) (hm' : m ≤ 1000000000000) (he : echk us m = 0) :
    Calls Tryz.prog 47 #[.slice A n c, .slice B m d] w fun e w' => e = .returned (.tuple #[.int .i64 (rmin (us.zip bs)), .int .i64 (rmax (us.zip bs)), .int .i64 0]) ∧ Below w.heap.size w w' := by
  have T := echeck_any A B n c m d us bs w h h' hm hm'
  rw [he] at T
  obtain ⟨hn5, hmn, hok⟩ := echk_ok he
  have T := Lib.hid T
  obtain ⟨hl, hc⟩ := h
  obtain ⟨hl', hc'⟩ := h'
  have hnm : m = n := by omega
  subst hnm
  have hzl : (us.zip bs).length = m := by rw [List.length_zip]; omega
  have hokz : ∀ z ∈ us.zip bs, uchk z.1 = 0 := fun z hz => hok z.1 (List.of_mem_zip hz).1
  have HL := Lib.hid hl
  have HL' := Lib.hid hl'
  have HC := Lib.hid hc
  have HC' := Lib.hid hc'
  have HZL := Lib.hid hzl
  have HOK := Lib.hid hokz
  have hn : m ≤ 5 := by omega
  clear he hn5 hmn hok hl hl' hc hc' hzl hokz
  go_enter Tryz.func47, Tryz.ntmps47
  go_wp2_with fail
  refine T.out.mono ?_
  rintro e w1 ⟨rfl, hb1⟩
  have HB1 := Lib.hid hb1
  clear hb1 T
  go_wp2_with fail
  go_loopw [4, 5, 18] (fun t4 t5 t wr => ∃ k : Nat, k ≤ m ∧ t = .int .i64 k ∧ t4 = .int .i64 (rmin ((us.zip bs).take k)) ∧ t5 = .int .i64 (rmax ((us.zip bs).take k)) ∧ Hid (Below w.heap.size w wr)) (fun _ _ t _ => m - (intOf t).toNat)
  case atStart => exact ⟨0, Nat.zero_le _, rfl, rfl, rfl, HB1.out⟩
  case round =>
    obtain ⟨k, hk, rfl, rfl, rfl, hB⟩ := hrel
    by_cases hlt : k < m
    · obtain ⟨b, o, rfl, hb, hcell⟩ := HC.out (by omega)
      obtain ⟨b', o', rfl, hb', hcell'⟩ := HC'.out (by omega)
      have hu := (hcell k hlt).below hb hB.out
      have hon := (hB.out.cell (p := ⟨b', o' + k, none⟩) hb').trans (hcell' k hlt)
      have htz := takeZ (us := us) (bs := bs) (k := k) (by rw [HL.out]; exact hlt) (by rw [HL'.out]; exact hlt)
      have s1 := rmin_snoc ((us.zip bs).take k) (us[k]?.getD U0, bs[k]?.getD false)
      have s2 := rmax_snoc ((us.zip bs).take k) (us[k]?.getD U0, bs[k]?.getD false)
      rw [← htz] at s1 s2
      have bd1 := range_bd ((us.zip bs).take k) (fun z hz => HOK.out z (List.mem_of_mem_take hz))
      have bd2 := range_bd ((us.zip bs).take (k + 1)) (fun z hz => HOK.out z (List.mem_of_mem_take hz))
      have l1 : ((us.zip bs).take k).length ≤ 5 := by have := List.length_take_le k (us.zip bs); omega
      have l2 : ((us.zip bs).take (k + 1)).length ≤ 5 := by have := List.length_take_le (k + 1) (us.zip bs); omega
      generalize bs[k]?.getD false = bk at *
      generalize us[k]?.getD U0 = u at *
      simp only at s1 s2
      obtain ⟨bus, mn, st, up, dn, start, idle, spin, on⟩ := u
      obtain ⟨A', n', c', ⟨h0, h1, h2, h3, h4, h5', h6, h7, h8⟩, hs, hn'⟩ := hu
      simp only at h0 h1 h2 h3 h4 h5' h6 h7 h8 hs s1
      have hbr : b < wr.heap.size := Nat.lt_of_lt_of_le hb hB.out.size
      have hbr' : b' < wr.heap.size := Nat.lt_of_lt_of_le hb' hB.out.size
      have T := fun W hW => umax_raw bus mn up dn start idle spin on A' n' c' st W hW hn'
      have hblk := Blk.new wr 39 #[.int .i64 bus, .int .i64 mn, .slice A' n' c', .int .i64 up, .int .i64 dn, .int .i64 start, .int .i64 idle, .int .i64 spin, .int .i64 on]
      have hs9 := hs.below ((Below.refl _ wr).alloc (Nat.le_refl _) (.cells #[.int .i64 bus, .int .i64 mn, .slice A' n' c', .int .i64 up, .int .i64 dn, .int .i64 start, .int .i64 idle, .int .i64 spin, .int .i64 on] 39))
      have hb9 := hB.out.alloc hB.out.size (.cells #[.int .i64 bus, .int .i64 mn, .slice A' n' c', .int .i64 up, .int .i64 dn, .int .i64 start, .int .i64 idle, .int .i64 spin, .int .i64 on] 39)
      have hon9 : (wr.alloc (.cells #[.int .i64 bus, .int .i64 mn, .slice A' n' c', .int .i64 up, .int .i64 dn, .int .i64 start, .int .i64 idle, .int .i64 spin, .int .i64 on] 39)).cell? ⟨b', o' + k, none⟩ = some (.bool bk) := by
        rw [World.cell?_alloc_past _ _ _ hbr']; exact hon
      generalize rmin ((us.zip bs).take k) = r1 at *
      generalize rmax ((us.zip bs).take k) = r2 at *
      generalize umax ⟨bus, mn, st, up, dn, start, idle, spin, on⟩ = um at *
      have S1 := Lib.hid s1
      have S2 := Lib.hid s2
      have HB9 := Lib.hid hb9
      have HS9 := Lib.hid hs9
      have T := Lib.hid T
      have q1 : 0 ≤ r1 := by omega
      have q2 : r1 ≤ 15000000 := by omega
      have q3 : 0 ≤ r2 := by omega
      have q4 : r2 ≤ 15000000 := by omega
      cases bk
      · simp at s1 s2
        clear s1 s2 hb9 hs9 bd1 bd2 l1 l2 htz hcell hcell' hblk T
        go_wp2
        go_roundw
        case rel => exact ⟨k + 1, by omega, by go_num, by rw [S1.out]; simp, by rw [S2.out]; simp, HB9.out⟩
        case measure => simp [intOf]; omega
      · simp at s1 s2
        have q5 : -15000000 ≤ mn := by omega
        have q6 : mn ≤ 15000000 := by omega
        have q7 : -15000000 ≤ um := by omega
        have q8 : um ≤ 15000000 := by omega
        obtain ⟨e0, e1, e2, e3, e4, e5, e6, e7, e8⟩ := hblk.nine
        clear s1 s2 hb9 hs9 bd1 bd2 l1 l2 htz hcell hcell' hblk
        go_wp2_with fail
        refine (T.out _ HS9.out).mono ?_
        rintro e w2 ⟨rfl, hb2⟩
        have hb3 : Below w.heap.size w w2 := HB9.out.trans (hb2.mono HB9.out.size)
        have HB3 := Lib.hid hb3
        clear hb2 hb3 h0 h1 h2 h3 h4 h5' h6 h7 h8 e0 e1 e2 e3 e4 e5 e6 e7 e8 hon9 hon
        go_wp2
        go_roundw
        case rel => exact ⟨k + 1, by omega, by go_num, by rw [S1.out]; simp, by rw [S2.out]; simp, HB3.out⟩
        case measure => simp [intOf]; omega
    · obtain rfl : k = m := by omega
      have e : (us.zip bs).take k = us.zip bs := List.take_of_length_le (by rw [HZL.out]; exact Nat.le_refl _)
      rw [e]
      go_wp2
      go_ret3
      exact ⟨rfl, hB.out⟩

set_option maxHeartbeats 1000000 in
theorem erange_no (A B : Option Addr) (n c m d : Nat) (us : List Un) (bs : List Bool) (w : World) (h : UsAt w A n us) (h' : BsAt w B m bs) (hm : n ≤ 1000000000000) (hm' : m ≤ 1000000000000) (he : echk us m ≠ 0) :
    Calls Tryz.prog 47 #[.slice A n c, .slice B m d] w fun e w' => e = .returned (.tuple #[.int .i64 0, .int .i64 0, .int .i64 (echk us m)]) ∧ Below w.heap.size w w' := by
  have T := echeck_any A B n c m d us bs w h h' hm hm'
  generalize echk us m = x at *
  have hx : (x != 0) = true := by simpa using he
  have T := Lib.hid T
  clear he
  go_enter Tryz.func47, Tryz.ntmps47
  go_wp2_with fail
  refine T.out.mono ?_
  rintro e w1 ⟨rfl, hb1⟩
  go_wp2
  go_ret3
  exact ⟨rfl, hb1⟩

end Go.Proofs.YtdoeejcmaeefcaaGreat
