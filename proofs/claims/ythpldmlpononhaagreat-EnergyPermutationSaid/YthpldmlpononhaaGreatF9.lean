/-
Contract of Floor of package frac at whole numbers, and WOK at 2^62. No statement of the seat is proved here; no conditions beyond those of each theorem.
-/
import Derived.Test.YthpldmlpononhaaGreatF8
namespace Go.Proofs.YthpldmlpononhaaGreat
set_option linter.unusedVariables false
set_option linter.unusedSimpArgs false
open Go.RowKit
open Wd

theorem wok_small : WOK 4611686018427387904 where
  add := addOK_small
  sub := subOK_small
  div := by
    intro A A' n n' c c' x y w h h' hx hy hn hn'
    exact divW_small A A' n n' c c' x y w h h' (by omega) hy hn hn'
  len := fun x hx => Nat.le_trans (len_le_two (by omega)) (by omega)

theorem whole_num {q : Rat} {n d z : Int} (hd : 0 < d) (h : q = mkRat n d.natAbs) (hz : q = (z : Rat)) : n = z * d := by
  rw [hz] at h
  have hd' : d.natAbs ≠ 0 := by omega
  have e1 := mk_num n d.natAbs hd'
  have e2 := mk_den n d.natAbs hd'
  rw [← h] at e1 e2
  have e3 : ((z : Rat)).num = z := rfl
  have e4 : ((z : Rat)).den = 1 := rfl
  rw [e3] at e1
  rw [e4] at e2
  have hg1 := Nat.gcd_dvd_right n.natAbs d.natAbs
  have hg2 := Nat.gcd_dvd_left n.natAbs d.natAbs
  generalize Nat.gcd n.natAbs d.natAbs = g at *
  have hgd : d.natAbs = g := by
    obtain ⟨k, hk⟩ := hg1
    have hg0 : 0 < g := by rcases Nat.eq_zero_or_pos g with h0 | h0; · rw [h0] at hk; omega
                           · exact h0
    rw [hk, Nat.mul_div_cancel_left _ hg0] at e2
    rw [hk, ← e2, Nat.mul_one]
  have hgd' : (g : Int) = d := by omega
  have hdv : (g : Int) ∣ n := Int.ofNat_dvd_left.2 hg2
  rw [e1, ← hgd', Int.tdiv_mul_cancel hdv]

theorem whole_parts {n d z : Int} {m1 m2 : Bool} {r1 r2 : List Nat} (hd : 0 < d) (h : n = z * d) (h1 : sg m1 (val r1) = n) (h2 : sg m2 (val r2) = d) : val r2 ≠ 0 ∧ val r2 ∣ val r1 ∧ sg (m1 != m2) (val r1 / val r2) = z := by
  have a1 : val r1 = n.natAbs := by rw [← h1, sg_natAbs]
  have a2 : val r2 = d.natAbs := by rw [← h2, sg_natAbs]
  have hp : 0 < d.natAbs := by omega
  have a3 : n.natAbs = z.natAbs * d.natAbs := by rw [h, Int.natAbs_mul]
  have a4 : n.natAbs / d.natAbs = z.natAbs := by rw [a3, Nat.mul_div_cancel _ hp]
  refine ⟨by omega, ?_, ?_⟩
  · rw [a1, a2, a3]; exact Nat.dvd_mul_left _ _
  · have hm2 : m2 = false := by
      cases m2
      · rfl
      · unfold sg at h2; simp at h2; omega
    subst hm2
    rw [a1, a2, a4]
    cases m1
    · have : 0 ≤ z := by
        by_cases hz : z < 0
        · have : n < 0 := by rw [h]; exact Int.mul_neg_of_neg_of_pos hz hd
          unfold sg at h1; simp at h1; omega
        · omega
      simp [sg]; omega
    · have : z ≤ 0 := by
        by_cases hz : 0 < z
        · have : 0 < n := by rw [h]; exact Int.mul_pos hz hd
          unfold sg at h1; simp at h1; omega
        · omega
      simp [sg]; omega

set_option maxRecDepth 100000 in
set_option maxHeartbeats 4000000 in
theorem qfloor_whole (M Nn Nd : Nat) (HO : WOK M) (hnm : Nn ≤ M) (an an' : Bool) (aA aA' : Option Addr) (ak ac ak' ac' : Nat) (z : Int) (w : World) (ha : QAt Nn Nd w an aA ak ac an' aA' ak' ac' (z : Rat)) :
    Calls Tryz.prog 121 #[.agg #[.bool an, .slice aA ak ac, .bool an', .slice aA' ak' ac']] w (RetZ w z) := by
  obtain ⟨na, da, hq, h1, h2, h3⟩ := ha
  have hz := whole_num (qden_pos da) h3 rfl
  have hd := qden_pos da
  have P := fun W hW => parts_in (w := W) (h := hq.below (w' := W) hW)
  generalize qnum na da = x1 at *
  generalize qden da = x2 at *
  have D := fun (m1 : Bool) (B1 : Option Addr) (j1 d1 : Nat) (r1 : List Nat) (m2 : Bool) (B2 : Option Addr) (j2 d2 : Nat) (r2 : List Nat) (W : World) (hj1 : j1 ≤ d1) (hj2 : j2 ≤ d2) (hl1 : j1 ≤ 10000000000) (hl2 : j2 ≤ 10000000000) (hW1 : Wat W B1 j1 r1) (hW2 : Wat W B2 j2 r2) (hs1 : sg m1 (val r1) = x1) (hs2 : sg m2 (val r2) = x2) =>
    divMod_exact M HO.div m1 m2 B1 B2 j1 j2 d1 d2 r1 r2 W hW1 hW2 hj1 hj2 hl1 hl2 (by have : val r1 = x1.natAbs := by rw [← hs1, sg_natAbs]
                                                                                      omega) (whole_parts hd hz hs1 hs2).1 (whole_parts hd hz hs1 hs2).2.1
  have D : ∀ (m1 : Bool) (B1 : Option Addr) (j1 d1 : Nat) (r1 : List Nat) (m2 : Bool) (B2 : Option Addr) (j2 d2 : Nat) (r2 : List Nat) (W : World) (hj1 : j1 ≤ d1) (hj2 : j2 ≤ d2) (hl1 : j1 ≤ 10000000000) (hl2 : j2 ≤ 10000000000) (hW1 : Wat W B1 j1 r1) (hW2 : Wat W B2 j2 r2) (hs1 : sg m1 (val r1) = x1) (hs2 : sg m2 (val r2) = x2),
      Calls Tryz.prog 126 #[.agg #[.bool m1, .slice B1 j1 d1], .agg #[.bool m2, .slice B2 j2 d2]] W (RetDM W z) := by
    intro m1 B1 j1 d1 r1 m2 B2 j2 d2 r2 W hj1 hj2 hl1 hl2 hW1 hW2 hs1 hs2
    have := D m1 B1 j1 d1 r1 m2 B2 j2 d2 r2 W hj1 hj2 hl1 hl2 hW1 hW2 hs1 hs2
    rwa [(whole_parts hd hz hs1 hs2).2.2] at this
  have P := Lib.hid P
  have D := Lib.hid D
  clear hz hd hq h1 h2 h3 hnm HO
  go_enter Tryz.func121, Tryz.ntmps121
  go_wp2_with fail
  have hB0 := (Blk.new w 31 #[.bool an, .slice aA ak ac, .bool an', .slice aA' ak' ac']).alloc (.cells #[.bool false, .slice none 0 0] 29)
  have hB1 := Blk.new1 w (.cells #[.bool an, .slice aA ak ac, .bool an', .slice aA' ak' ac'] 31) 29 #[.bool false, .slice none 0 0]
  have hBW : Below w.heap.size w ((w.alloc (.cells #[.bool an, .slice aA ak ac, .bool an', .slice aA' ak' ac'] 31)).alloc (.cells #[.bool false, .slice none 0 0] 29)) := ((Below.refl _ _).alloc (Nat.le_refl _) _).alloc (by simp only [World.size_alloc]; omega) _
  have hsz : ((w.alloc (.cells #[.bool an, .slice aA ak ac, .bool an', .slice aA' ak' ac'] 31)).alloc (.cells #[.bool false, .slice none 0 0] 29)).heap.size = w.heap.size + 1 + 1 := by simp
  generalize (w.alloc (.cells #[.bool an, .slice aA ak ac, .bool an', .slice aA' ak' ac'] 31)).alloc (.cells #[.bool false, .slice none 0 0] 29) = W at *
  have HSZ := Lib.hid hsz
  clear hsz
  refine (P.out W hBW).mono ?_
  rintro e w1 ⟨m1, B1, j1, d1, r1, m2, B2, j2, d2, r2, rfl, hj1, hj2, hl1, hl2, hW1, hW2, hs1, hs2, hb1⟩
  have hB0 := hB0.below hb1 hB0.lt
  have hB1 := hB1.below hb1 hB1.lt
  have hBW : Below w.heap.size w w1 := hBW.trans (hb1.mono hBW.size)
  clear hb1 HSZ P
  have hs1 := Lib.hid hs1
  have hs2 := Lib.hid hs2
  go_wp2_with fail
  refine (D.out m1 B1 j1 d1 r1 m2 B2 j2 d2 r2 w1 hj1 hj2 hl1 hl2 hW1 hW2 hs1.out hs2.out).mono ?_
  rintro e w2 ⟨A3, k3, c3, rfl, hk3, hW3, hF3, hb2⟩
  have hr := (RS.start hB1).call hb2
  have hBW : Below w.heap.size w w1 := hBW
  have hb3 : Below w2.heap.size w2 ((w2.alloc (.cells #[.bool (decide (z < 0)), .slice A3 k3 c3] 29)).alloc (.cells #[.bool false, .slice none 0 0] 29)) := ((Below.refl _ _).alloc (Nat.le_refl _) _).alloc (by simp only [World.size_alloc]; omega) _
  have hr := hr.call hb3
  have hF3 := hF3.keep hW3 hb3
  have hW3 := hW3.below hb3
  obtain ⟨_, _, i0, i1, i2, i3⟩ := hr.two
  have HSZ : Hid (w.heap.size + 1 < w1.heap.size) := hB1.lt
  clear hb2 hb3 hB0 hB1
  have hfin := retZ_close hBW (by omega) (by have := HSZ.out; omega) hr hk3 hW3 hF3
  obtain ⟨d0, d1, -, -⟩ := (hr.done (.bool (decide (z < 0))) (.slice A3 k3 c3)).two
  have HF := Lib.hid hfin
  clear hfin hW1 hW2
  go_wp2
  refine bodyPost_ret (v := .agg #[.bool (decide (z < 0)), .slice A3 k3 c3]) ?_ rfl HF.out
  simp [results, Tryz.results121, go_sem, d0, d1]

end Go.Proofs.YthpldmlpononhaaGreat
