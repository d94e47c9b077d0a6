/-
What divWords, GCD, DivMod, Add and Sub of package whole owe up to a bound M; divWords for dividends of at most two words. No statement of the seat is proved here; no conditions beyond those of each theorem.
-/
import Derived.Test.YthpldmlpononhaaGreatW7
namespace Go.Proofs.YthpldmlpononhaaGreat
set_option linter.unusedVariables false
set_option linter.unusedSimpArgs false
open Go.RowKit
open Wd

/-- Quotient and remainder, as words in new memory. -/
def RetDiv (w : World) (x y : Nat) (e : Ending) (w' : World) : Prop :=
  ∃ A1 n1 c1 q A2 n2 c2 r, e = .returned (.tuple #[.slice A1 n1 c1, .slice A2 n2 c2]) ∧ n1 ≤ c1 ∧ n2 ≤ c2 ∧ n1 ≤ 100000000000 ∧ n2 ≤ 100000000000 ∧ Wat w' A1 n1 q ∧ Wat w' A2 n2 r ∧
    Fresh w.heap.size w' A1 n1 ∧ Fresh w.heap.size w' A2 n2 ∧ val q = x / y ∧ val r = x % y ∧ Below w.heap.size w w'

/-- divWords divides, for dividends below M. -/
def DivW (M : Nat) : Prop := ∀ (A A' : Option Addr) (n n' c c' x y : Nat) (w : World), Wat w A n (digs x) → Wat w A' n' (digs y) → x < M → y ≠ 0 → n ≤ 10000000000 → n' ≤ 10000000000 →
  Calls Tryz.prog 171 #[.slice A n c, .slice A' n' c'] w (RetDiv w x y)

theorem compareWords_bel (A A' : Option Addr) (n n' c c' : Nat) (x y : Nat) (w : World) (h : Wat w A n (digs x)) (h' : Wat w A' n' (digs y)) (hm : n ≤ 9223372036854775807) (hm' : n' ≤ 9223372036854775807) :
    Calls Tryz.prog 111 #[.slice A n c, .slice A' n' c'] w fun e w' => e = .returned (.int .i64 (cmpI x y)) ∧ Below w.heap.size w w' :=
  (compareWords_any A A' n n' c c' x y w h h' hm hm').mono fun _ _ ⟨he, k, hk⟩ => ⟨he, by rw [hk]; exact belowN _ _⟩

theorem field_zw (a b : Value) (w : World) : (Instr.field 29 (.agg #[a, b]) 1).run Tryz.prog w = .ok b w := by kernel_rfl

theorem val_digs_zero {x : Nat} (h : val (digs x) = 0) : x = 0 := by rw [val_digs] at h; exact h

set_option maxHeartbeats 1000000 in
theorem divWords_less (A A' : Option Addr) (n n' c c' x y : Nat) (w : World) (h : Wat w A n (digs x)) (h' : Wat w A' n' (digs y)) (hxy : x < y) (hn : n ≤ 10000000000) (hn' : n' ≤ 10000000000) :
    Calls Tryz.prog 171 #[.slice A n c, .slice A' n' c'] w (RetDiv w x y) := by
  have hc : cmpI x y = -1 := cmpI_lt (by omega)
  have T := compareWords_bel A A' n n' c c' x y w h h' (by omega) (by omega)
  rw [hc] at T
  have T := Lib.hid T
  have hq : x / y = 0 := Nat.div_eq_of_lt hxy
  have hr : x % y = x := Nat.mod_eq_of_lt hxy
  have HQ := Lib.hid hq
  have HR := Lib.hid hr
  clear hc hq hr hxy
  go_enter Tryz.func171, Tryz.ntmps171
  go_wp2_with fail
  refine (T.out).mono ?_
  rintro e w1 ⟨rfl, hb1⟩
  go_wp2_with fail
  refine (clone_any A n c (digs x) w1 (h.below hb1) (by omega)).mono ?_
  rintro e w2 ⟨A2, c2, rfl, hk2, hcm2, hW2, hF2, hb2⟩
  go_wp2
  go_ret2
  exact ⟨none, 0, 0, [], A2, n, c2, digs x, rfl, Nat.le_refl _, hk2, by omega, by omega, Wat.nil, hW2, Fresh.nil, hF2.mono hb1.size, by rw [HQ.out]; rfl, by rw [HR.out, val_digs], hb1.trans (hb2.mono hb1.size)⟩

set_option maxRecDepth 100000 in
set_option maxHeartbeats 2000000 in
theorem divWords_two (A A' : Option Addr) (n n' c c' x y : Nat) (w : World) (h : Wat w A n (digs x)) (h' : Wat w A' n' (digs y)) (hxy : y ≤ x) (hx : x < 18446744073709551616) (hy : y ≠ 0) (hn : n ≤ 10000000000) (hn' : n' ≤ 10000000000) :
    Calls Tryz.prog 171 #[.slice A n c, .slice A' n' c'] w (RetDiv w x y) := by
  have hc : 0 ≤ cmpI x y := by
    rcases Nat.lt_or_ge y x with h1 | h1
    · rw [cmpI_gt (by omega)]; decide
    · rw [cmpI_eq (by omega)]; decide
  have T := compareWords_bel A A' n n' c c' x y w h h' (by omega) (by omega)
  generalize cmpI x y = cc at *
  have T := Lib.hid T
  have hl2 : n ≤ 2 := by rw [← h.1]; exact len_le_two hx
  have hl2' : n' ≤ 2 := by rw [← h'.1]; exact len_le_two (by omega)
  have hq : IntKind.u64.wrap ((x : Int).tdiv (y : Int)) = ((x / y : Nat) : Int) := by
    rw [IntWalk.u64_quo _ _ ⟨by omega, by omega, by omega⟩]; omega
  have hr : (x : Int).tmod (y : Int) = ((x % y : Nat) : Int) := by rw [IntWalk.rem_in _ _ (by omega)]; omega
  have hq' : IntKind.u64.wrap ((x : Int) / (y : Int)) = ((x / y : Nat) : Int) := by
    have e : (x : Int) / (y : Int) = ((x / y : Nat) : Int) := by omega
    have := Nat.lt_of_le_of_lt (Nat.div_le_self x y) hx
    rw [e, IntKind.wrap_u64]
    generalize x / y = q at *
    clear hq
    omega
  have hr' : (x : Int) % (y : Int) = ((x % y : Nat) : Int) := by omega
  have hy0 : ((y : Int) == 0) = false := by simp; exact hy
  have hqb : x / y < 18446744073709551616 := Nat.lt_of_le_of_lt (Nat.div_le_self _ _) hx
  have hrb : x % y < 18446744073709551616 := Nat.lt_of_le_of_lt (Nat.mod_le _ _) hx
  have HQB := Lib.hid hqb
  have HRB := Lib.hid hrb
  have HV1 := Lib.hid (val_digs x)
  have HV2 := Lib.hid (val_digs y)
  clear hqb hrb hxy hx
  have hfld := field_zw
  generalize hqe : x / y = q at *
  generalize hre : x % y = r at *
  have HQE := Lib.hid hqe
  have HRE := Lib.hid hre
  clear hqe hre
  go_enter Tryz.func171, Tryz.ntmps171
  go_wp2_with fail
  refine (T.out).mono ?_
  rintro e w1 ⟨rfl, hb1⟩
  go_wp2_with fail
  refine (low_bel A n c _ w1 (h.below hb1) hl2).mono ?_
  rw [HV1.out]
  rintro e w2 ⟨rfl, hb2⟩
  go_wp2_with fail
  have hb12 := hb1.trans (hb2.mono hb1.size)
  refine (low_bel A' n' c' _ w2 (h'.below hb12) hl2').mono ?_
  rw [HV2.out]
  rintro e W ⟨rfl, hb3⟩
  have hbW : Below w.heap.size w W := hb12.trans (hb3.mono hb12.size)
  clear hb1 hb2 hb12 hb3 T
  go_wp2_with fail
  have s4 := Kp.refl W
  have hS : ∀ w', Kp W w' → (True) ∧ Kp W w' := fun w' hk => ⟨⟨⟩, hk⟩
  have HS := Lib.hid hS
  clear hS
  go_region_held3 (fun w' => (True) ∧ Kp W w')
    (first | (with_reducible refine HS.out _ ?_; with_reducible assumption) | (with_reducible refine HS.out _ (Kp.drew ?_); with_reducible assumption) | (with_reducible refine' HS.out _ (Kp.drew (And.right ?_)); rotate_left; with_reducible assumption))
    (first
      | (go_at_call_of 112 (Value.int .u64 (q : Int)); have hk := And.right ‹_ ∧ Kp W _›; refine (small_any false q _ HQB.out).mono ?_; rintro e w3 ⟨A3, k3, c3, rfl, hk3, hW3, hF3, hb3⟩; have hz3 := Below.size hk; have hr3 := hk.trans hb3)
      | (go_at_call_of 112 (Value.int .u64 (r : Int)); have hk := And.right ‹_ ∧ Kp W _›; refine (small_any false r _ HRB.out).mono ?_; rintro e w4 ⟨A4, k4, c4, rfl, hk4, hW4, hF4, hb4⟩; have hz4 := Below.size hk; have hr4 := hk.trans hb4))
  have h3 := hW3.1
  have h4 := hW4.1
  rw [sg_natAbs] at hW3 hW4 h3 h4
  have b3 : k3 ≤ 2 := by rw [← h3]; exact len_le_two HQB.out
  have b4 : k4 ≤ 2 := by rw [← h4]; exact len_le_two HRB.out
  have hz5 := HS
  have hfin : RetDiv w x y (.returned (.tuple #[.slice A3 k3 c3, .slice A4 k4 c4])) w4 :=
    ⟨A3, k3, c3, _, A4, k4, c4, _, rfl, hk3, hk4, by omega, by omega, hW3.below hb4, hW4, (hF3.keep hW3 hb4).mono hbW.size, hF4.mono (Nat.le_trans hbW.size hz4), by rw [val_digs, HQE.out], by rw [val_digs, HRE.out], hbW.trans (Below.mono hr4 hbW.size)⟩
  have HF := Lib.hid hfin
  clear hfin h3 h4 hz5
  go_wp2
  go_ret2
  exact HF.out

theorem divW_small : DivW 18446744073709551616 := by
  intro A A' n n' c c' x y w h h' hx hy hn hn'
  rcases Nat.lt_or_ge x y with hlt | hge
  · exact divWords_less A A' n n' c c' x y w h h' hlt hn hn'
  · exact divWords_two A A' n n' c c' x y w h h' hge hx hy hn hn'

/-- The number that a slice of words reads as; for a loop's measure. -/
def readW (w : World) : Value → Nat
  | .slice (some a) n _ => val ((List.range n).map fun j => match w.cell? ⟨a.block, a.off + j, none⟩ with | some (.int _ z) => z.toNat | _ => 0)
  | _ => 0
theorem Wat.read {w : World} {A : Option Addr} {n : Nat} {l : List Nat} (h : Wat w A n l) (c : Nat) : readW w (.slice A n c) = val l := by
  rcases Nat.eq_zero_or_pos n with h0 | h0
  · subst h0
    obtain rfl : l = [] := List.eq_nil_of_length_eq_zero h.1
    cases A <;> rfl
  · obtain ⟨b, o, rfl, hb, hc⟩ := h.2.2 (by omega)
    show val _ = val l
    congr 1
    apply List.ext_getElem
    · simp [h.1]
    · intro j h1 h2
      simp only [List.getElem_map, List.getElem_range]
      have hj : j < n := by simpa using h1
      rw [hc j hj, List.getElem?_eq_getElem h2]
      rfl

end Go.Proofs.YthpldmlpononhaaGreat
