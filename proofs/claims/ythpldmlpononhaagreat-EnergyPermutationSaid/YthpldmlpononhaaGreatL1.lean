/-
What the statements on package energy call: Same, Long, the units of the examples, gives, awake. No statement of the seat is proved here; no conditions beyond those of each theorem.
-/
import Derived.Test.YthpldmlpononhaaGreatE7
namespace Go.Proofs.YthpldmlpononhaaGreat
set_option linter.unusedVariables false
set_option linter.unusedSimpArgs false
open Go.RowKit
open Wd
open En (Pc PU)

theorem int_ext {xs ys : List Int} {n : Nat} (h1 : xs.length = n) (h2 : ys.length = n) (h : ∀ i, i < n → xs[i]?.getD 0 = ys[i]?.getD 0) : xs = ys := by
  apply List.ext_getElem (by omega)
  intro i hi hj
  have := h i (by omega)
  rw [List.getElem?_eq_getElem hi, List.getElem?_eq_getElem hj] at this
  exact this

set_option maxHeartbeats 2000000 in
theorem same_any (A B : Option Addr) (n c m d : Nat) (xs ys : List Int) (w : World) (h : IsAt w A n xs) (h' : IsAt w B m ys) (hm : n ≤ 1000000000000) :
    Calls Tryz.prog 51 #[.slice A n c, .slice B m d] w fun e w' => e = .returned (.bool (decide (xs = ys))) ∧ Below w.heap.size w w' := by
  by_cases hnm : n = m
  · subst hnm
    have HX := Lib.hid h
    have HY := Lib.hid h'
    have hne : ((n : Int) != (n : Int)) = false := by simp
    clear h h'
    go_enter Tryz.func51, Tryz.ntmps51
    go_wp2_with fail
    go_loopw [5] (fun t wr => ∃ k : Nat, k ≤ n ∧ t = .int .i64 k ∧ Hid (∀ i, i < k → xs[i]?.getD 0 = ys[i]?.getD 0) ∧ Hid (Below w.heap.size w wr)) (fun t _ => n - (intOf t).toNat)
    case atStart => exact ⟨0, Nat.zero_le _, rfl, fun i hi => absurd hi (by omega), Below.refl _ _⟩
    case round =>
      obtain ⟨k, hk, rfl, hE, hB⟩ := hrel
      by_cases hlt : k < n
      · obtain ⟨b, o, rfl, hb, hc⟩ := HX.out.2 (by omega)
        obtain ⟨b', o', rfl, hb', hc'⟩ := HY.out.2 (by omega)
        have c1 := (hB.out.cell (p := ⟨b, o + k, none⟩) hb).trans (hc k hlt)
        have c2 := (hB.out.cell (p := ⟨b', o' + k, none⟩) hb').trans (hc' k hlt)
        have hki1 : (0 : Int) ≤ (k : Int) := by omega
        have hki2 : (k : Int) < (n : Int) := by omega
        clear hc hc'
        by_cases hxy : xs[k]?.getD 0 = ys[k]?.getD 0
        · have hE2 : ∀ i, i < k + 1 → xs[i]?.getD 0 = ys[i]?.getD 0 := fun i hi => by
            by_cases hik : i = k
            · rw [hik]; exact hxy
            · exact hE.out i (by omega)
          have HE2 := Lib.hid hE2
          have d1 : (xs[k]?.getD 0 != ys[k]?.getD 0) = false := by simpa using hxy
          have HBD := fun q => below_drewN hB.out q
          have HBD := Lib.hid HBD
          generalize xs[k]?.getD 0 = x at *
          generalize ys[k]?.getD 0 = y at *
          clear hE2 hxy hE hB
          go_wp2
          go_quiet (fail)
          go_wp2
          go_roundw
          case rel => exact ⟨k + 1, by omega, by go_num, HE2.out, HBD.out _⟩
          case measure => simp [intOf]; omega
        · have hne2 : decide (xs = ys) = false := by
            simp only [decide_eq_false_iff_not]
            intro e; exact hxy (by rw [e])
          have d1 : (xs[k]?.getD 0 != ys[k]?.getD 0) = true := by simpa using hxy
          have HBD := fun q => below_drewN hB.out q
          have HBD := Lib.hid HBD
          have HN := Lib.hid hne2
          generalize xs[k]?.getD 0 = x at *
          generalize ys[k]?.getD 0 = y at *
          clear hne2 hxy hE hB
          go_wp2
          go_quiet (fail)
          go_wp2
          go_ret
          exact ⟨by rw [HN.out]; rfl, HBD.out _⟩
      · obtain rfl : k = n := by omega
        have he : decide (xs = ys) = true := by
          simp only [decide_eq_true_eq]
          exact int_ext HX.out.1 HY.out.1 hE.out
        have HN := Lib.hid he
        clear he
        go_wp2
        go_ret
        exact ⟨by rw [HN.out]; rfl, hB.out⟩
  · have hne2 : decide (xs = ys) = false := by
      simp only [decide_eq_false_iff_not]
      intro e; exact hnm (by rw [← h.1, ← h'.1, e])
    have hne : ((n : Int) != (m : Int)) = true := by simp; omega
    rw [hne2]
    clear h h' hne2
    go_enter Tryz.func51, Tryz.ntmps51
    go_wp2
    go_ret
    exact ⟨rfl, Below.refl _ _⟩

def exU : List Un := [⟨0, 2, [(5, 1), (4, 3)], 1, 1, 0, 0, 0, 1⟩, ⟨0, 0, [(3, 2), (3, 3)], 1, 1, 0, 0, 0, 1⟩]

set_option maxHeartbeats 2000000 in
theorem ex_any (w : World) : Calls Tryz.prog 82 #[] w fun e w' => ∃ g, e = .returned (.slice (some ⟨g, 0, none⟩) 2 2) ∧ UsAt w' (some ⟨g, 0, none⟩) 2 exU ∧ Below w.heap.size w w' := by
  go_enter Tryz.func82, Tryz.ntmps82
  go_wp2
  have hB0 := ((((Blk.new w 92 #[.int .i64 5, .int .i64 1, .int .i64 4, .int .i64 3]).alloc (.cells #[.int .i64 0, .int .i64 2, .slice (some ⟨w.heap.size, 0, none⟩) 2 2, .int .i64 1, .int .i64 1, .int .i64 0, .int .i64 0, .int .i64 0, .int .i64 1] 48)).alloc (.cells #[.int .i64 3, .int .i64 2, .int .i64 3, .int .i64 3] 92)).alloc (.cells #[.int .i64 0, .int .i64 0, .slice (some ⟨w.heap.size + 1 + 1, 0, none⟩) 2 2, .int .i64 1, .int .i64 1, .int .i64 0, .int .i64 0, .int .i64 0, .int .i64 1] 48)).alloc (.cells #[.int .i64 0, .int .i64 2, .slice (some ⟨w.heap.size, 0, none⟩) 2 2, .int .i64 1, .int .i64 1, .int .i64 0, .int .i64 0, .int .i64 0, .int .i64 1, .int .i64 0, .int .i64 0, .slice (some ⟨w.heap.size + 1 + 1, 0, none⟩) 2 2, .int .i64 1, .int .i64 1, .int .i64 0, .int .i64 0, .int .i64 0, .int .i64 1] 48)
  have hB1 := (((Blk.new1 w (.cells #[.int .i64 5, .int .i64 1, .int .i64 4, .int .i64 3] 92) 48 #[.int .i64 0, .int .i64 2, .slice (some ⟨w.heap.size, 0, none⟩) 2 2, .int .i64 1, .int .i64 1, .int .i64 0, .int .i64 0, .int .i64 0, .int .i64 1]).alloc (.cells #[.int .i64 3, .int .i64 2, .int .i64 3, .int .i64 3] 92)).alloc (.cells #[.int .i64 0, .int .i64 0, .slice (some ⟨w.heap.size + 1 + 1, 0, none⟩) 2 2, .int .i64 1, .int .i64 1, .int .i64 0, .int .i64 0, .int .i64 0, .int .i64 1] 48)).alloc (.cells #[.int .i64 0, .int .i64 2, .slice (some ⟨w.heap.size, 0, none⟩) 2 2, .int .i64 1, .int .i64 1, .int .i64 0, .int .i64 0, .int .i64 0, .int .i64 1, .int .i64 0, .int .i64 0, .slice (some ⟨w.heap.size + 1 + 1, 0, none⟩) 2 2, .int .i64 1, .int .i64 1, .int .i64 0, .int .i64 0, .int .i64 0, .int .i64 1] 48)
  have hB2 := ((Blk.new2 w (.cells #[.int .i64 5, .int .i64 1, .int .i64 4, .int .i64 3] 92) (.cells #[.int .i64 0, .int .i64 2, .slice (some ⟨w.heap.size, 0, none⟩) 2 2, .int .i64 1, .int .i64 1, .int .i64 0, .int .i64 0, .int .i64 0, .int .i64 1] 48) 92 #[.int .i64 3, .int .i64 2, .int .i64 3, .int .i64 3]).alloc (.cells #[.int .i64 0, .int .i64 0, .slice (some ⟨w.heap.size + 1 + 1, 0, none⟩) 2 2, .int .i64 1, .int .i64 1, .int .i64 0, .int .i64 0, .int .i64 0, .int .i64 1] 48)).alloc (.cells #[.int .i64 0, .int .i64 2, .slice (some ⟨w.heap.size, 0, none⟩) 2 2, .int .i64 1, .int .i64 1, .int .i64 0, .int .i64 0, .int .i64 0, .int .i64 1, .int .i64 0, .int .i64 0, .slice (some ⟨w.heap.size + 1 + 1, 0, none⟩) 2 2, .int .i64 1, .int .i64 1, .int .i64 0, .int .i64 0, .int .i64 0, .int .i64 1] 48)
  have hB3 := (Blk.new3 w (.cells #[.int .i64 5, .int .i64 1, .int .i64 4, .int .i64 3] 92) (.cells #[.int .i64 0, .int .i64 2, .slice (some ⟨w.heap.size, 0, none⟩) 2 2, .int .i64 1, .int .i64 1, .int .i64 0, .int .i64 0, .int .i64 0, .int .i64 1] 48) (.cells #[.int .i64 3, .int .i64 2, .int .i64 3, .int .i64 3] 92) 48 #[.int .i64 0, .int .i64 0, .slice (some ⟨w.heap.size + 1 + 1, 0, none⟩) 2 2, .int .i64 1, .int .i64 1, .int .i64 0, .int .i64 0, .int .i64 0, .int .i64 1]).alloc (.cells #[.int .i64 0, .int .i64 2, .slice (some ⟨w.heap.size, 0, none⟩) 2 2, .int .i64 1, .int .i64 1, .int .i64 0, .int .i64 0, .int .i64 0, .int .i64 1, .int .i64 0, .int .i64 0, .slice (some ⟨w.heap.size + 1 + 1, 0, none⟩) 2 2, .int .i64 1, .int .i64 1, .int .i64 0, .int .i64 0, .int .i64 0, .int .i64 1] 48)
  have hB4 := Blk.new4 w (.cells #[.int .i64 5, .int .i64 1, .int .i64 4, .int .i64 3] 92) (.cells #[.int .i64 0, .int .i64 2, .slice (some ⟨w.heap.size, 0, none⟩) 2 2, .int .i64 1, .int .i64 1, .int .i64 0, .int .i64 0, .int .i64 0, .int .i64 1] 48) (.cells #[.int .i64 3, .int .i64 2, .int .i64 3, .int .i64 3] 92) (.cells #[.int .i64 0, .int .i64 0, .slice (some ⟨w.heap.size + 1 + 1, 0, none⟩) 2 2, .int .i64 1, .int .i64 1, .int .i64 0, .int .i64 0, .int .i64 0, .int .i64 1] 48) 48 #[.int .i64 0, .int .i64 2, .slice (some ⟨w.heap.size, 0, none⟩) 2 2, .int .i64 1, .int .i64 1, .int .i64 0, .int .i64 0, .int .i64 0, .int .i64 1, .int .i64 0, .int .i64 0, .slice (some ⟨w.heap.size + 1 + 1, 0, none⟩) 2 2, .int .i64 1, .int .i64 1, .int .i64 0, .int .i64 0, .int .i64 0, .int .i64 1]
  have hBW : Below w.heap.size w (((((w.alloc (.cells #[.int .i64 5, .int .i64 1, .int .i64 4, .int .i64 3] 92)).alloc (.cells #[.int .i64 0, .int .i64 2, .slice (some ⟨w.heap.size, 0, none⟩) 2 2, .int .i64 1, .int .i64 1, .int .i64 0, .int .i64 0, .int .i64 0, .int .i64 1] 48)).alloc (.cells #[.int .i64 3, .int .i64 2, .int .i64 3, .int .i64 3] 92)).alloc (.cells #[.int .i64 0, .int .i64 0, .slice (some ⟨w.heap.size + 1 + 1, 0, none⟩) 2 2, .int .i64 1, .int .i64 1, .int .i64 0, .int .i64 0, .int .i64 0, .int .i64 1] 48)).alloc (.cells #[.int .i64 0, .int .i64 2, .slice (some ⟨w.heap.size, 0, none⟩) 2 2, .int .i64 1, .int .i64 1, .int .i64 0, .int .i64 0, .int .i64 0, .int .i64 1, .int .i64 0, .int .i64 0, .slice (some ⟨w.heap.size + 1 + 1, 0, none⟩) 2 2, .int .i64 1, .int .i64 1, .int .i64 0, .int .i64 0, .int .i64 0, .int .i64 1] 48)) := (((((Below.refl _ _).alloc (Nat.le_refl _) _).alloc (by simp only [World.size_alloc]; omega) _).alloc (by simp only [World.size_alloc]; omega) _).alloc (by simp only [World.size_alloc]; omega) _).alloc (by simp only [World.size_alloc]; omega) _
  have hsz : (((((w.alloc (.cells #[.int .i64 5, .int .i64 1, .int .i64 4, .int .i64 3] 92)).alloc (.cells #[.int .i64 0, .int .i64 2, .slice (some ⟨w.heap.size, 0, none⟩) 2 2, .int .i64 1, .int .i64 1, .int .i64 0, .int .i64 0, .int .i64 0, .int .i64 1] 48)).alloc (.cells #[.int .i64 3, .int .i64 2, .int .i64 3, .int .i64 3] 92)).alloc (.cells #[.int .i64 0, .int .i64 0, .slice (some ⟨w.heap.size + 1 + 1, 0, none⟩) 2 2, .int .i64 1, .int .i64 1, .int .i64 0, .int .i64 0, .int .i64 0, .int .i64 1] 48)).alloc (.cells #[.int .i64 0, .int .i64 2, .slice (some ⟨w.heap.size, 0, none⟩) 2 2, .int .i64 1, .int .i64 1, .int .i64 0, .int .i64 0, .int .i64 0, .int .i64 1, .int .i64 0, .int .i64 0, .slice (some ⟨w.heap.size + 1 + 1, 0, none⟩) 2 2, .int .i64 1, .int .i64 1, .int .i64 0, .int .i64 0, .int .i64 0, .int .i64 1] 48)).heap.size = w.heap.size + 1 + 1 + 1 + 1 + 1 := by simp
  generalize ((((w.alloc (.cells #[.int .i64 5, .int .i64 1, .int .i64 4, .int .i64 3] 92)).alloc (.cells #[.int .i64 0, .int .i64 2, .slice (some ⟨w.heap.size, 0, none⟩) 2 2, .int .i64 1, .int .i64 1, .int .i64 0, .int .i64 0, .int .i64 0, .int .i64 1] 48)).alloc (.cells #[.int .i64 3, .int .i64 2, .int .i64 3, .int .i64 3] 92)).alloc (.cells #[.int .i64 0, .int .i64 0, .slice (some ⟨w.heap.size + 1 + 1, 0, none⟩) 2 2, .int .i64 1, .int .i64 1, .int .i64 0, .int .i64 0, .int .i64 0, .int .i64 1] 48)).alloc (.cells #[.int .i64 0, .int .i64 2, .slice (some ⟨w.heap.size, 0, none⟩) 2 2, .int .i64 1, .int .i64 1, .int .i64 0, .int .i64 0, .int .i64 0, .int .i64 1, .int .i64 0, .int .i64 0, .slice (some ⟨w.heap.size + 1 + 1, 0, none⟩) 2 2, .int .i64 1, .int .i64 1, .int .i64 0, .int .i64 0, .int .i64 0, .int .i64 1] 48) = W at *
  have HSZ := Lib.hid hsz
  clear hsz
  go_ret
  have s1 : StAt W (some ⟨w.heap.size, 0, none⟩) 2 [(5, 1), (4, 3)] := ⟨rfl, by intro s hs; simp at hs; rcases hs with rfl | rfl <;> (unfold Fits; omega), fun _ => ⟨_, 0, rfl, hB0.lt, fun j hj => by
    match j, hj with
    | 0, _ => exact ⟨hB0.cell 0, hB0.cell 1⟩
    | 1, _ => exact ⟨hB0.cell 2, hB0.cell 3⟩⟩⟩
  have s2 : StAt W (some ⟨w.heap.size + 1 + 1, 0, none⟩) 2 [(3, 2), (3, 3)] := ⟨rfl, by intro s hs; simp at hs; rcases hs with rfl | rfl <;> (unfold Fits; omega), fun _ => ⟨_, 0, rfl, hB2.lt, fun j hj => by
    match j, hj with
    | 0, _ => exact ⟨hB2.cell 0, hB2.cell 1⟩
    | 1, _ => exact ⟨hB2.cell 2, hB2.cell 3⟩⟩⟩
  refine ⟨w.heap.size + 1 + 1 + 1 + 1, rfl, ⟨rfl, fun _ => ⟨_, 0, rfl, hB4.lt, fun j hj => ?_⟩⟩, hBW⟩
  match j, hj with
  | 0, _ => exact ⟨_, 2, 2, ⟨hB4.cell 0, hB4.cell 1, hB4.cell 2, hB4.cell 3, hB4.cell 4, hB4.cell 5, hB4.cell 6, hB4.cell 7, hB4.cell 8⟩, s1, by omega⟩
  | 1, _ => exact ⟨_, 2, 2, ⟨hB4.cell 9, hB4.cell 10, hB4.cell 11, hB4.cell 12, hB4.cell 13, hB4.cell 14, hB4.cell 15, hB4.cell 16, hB4.cell 17⟩, s2, by omega⟩


set_option maxRecDepth 100000 in
set_option maxHeartbeats 4000000 in
theorem gives_yes (A B C : Option Addr) (n c d e' : Nat) (us : List Un) (bs : List Bool) (xs : List Int) (f z : Int) (w : World) (h : UsAt w A n us) (h' : BsAt w B n bs) (hx : IsAt w C n xs) (hm : n ≤ 1000000000000) (he : aerr us bs n f = 0) (hO : En.Opt (pus us bs) f xs) (hz : En.costR (pus us bs) xs = z) :
    Calls Tryz.prog 83 #[.slice A n c, .slice B n d, .int .i64 f, .int .i64 z, .slice C n e'] w fun e w' => e = .returned (.bool true) ∧ Below w.heap.size w w' := by
  obtain ⟨h1, h2, h3, h4⟩ := aerr_ok he
  obtain ⟨hn5, hmn, hok⟩ := echk_ok h1
  have hal := pus_allok (bs := bs) hok
  have HALL := Lib.hid hal
  have HT1 := Lib.hid (fun W (hW : Below w.heap.size w W) => ealloc_ok A B n c d us bs f W (h.below hW) (h'.below hW) hm h1 h2 h3 h4)
  have HT2 := Lib.hid (fun W (hW : Below w.heap.size w W) => elc_ok A B n c d us bs f W (h.below hW) (h'.below hW) hm he)
  have HT3 := Lib.hid (fun W (hW : Below w.heap.size w W) => eCost_ok A B C n c d e' us bs xs W (h.below hW) (h'.below hW) (hx.below hW) hm h1)
  have HX := Lib.hid hx
  have HO := Lib.hid hO
  have HZ := Lib.hid hz
  have HFE := Lib.hid (hO.feas hal)
  have z1 : (z == z) = true := by simp
  clear h h' hx he hO hz h1 h2 h3 h4 hn5 hmn hok hal
  go_enter Tryz.func83, Tryz.ntmps83
  go_wp2_with fail
  refine (HT1.out w (Below.refl _ _)).mono ?_
  rintro e w1 ⟨g, ys, rfl, hR, hyl, hO1, hg, hb1⟩
  have hys : ys = xs := hO1.only HALL.out HO.out
  subst hys
  have HR := Lib.hid (hR.at hyl)
  have HB1 := Lib.hid hb1
  clear hR hyl hO1 hb1 HT1
  go_wp2_with fail
  refine (HT2.out w1 HB1.out).mono ?_
  rintro e w2 ⟨vs, hO2, hvl, rfl, hb2⟩
  have hvs : vs = ys := hO2.only HALL.out HO.out
  subst hvs
  have HB2 := Lib.hid (HB1.out.trans (hb2.mono HB1.out.size))
  have HR2 := Lib.hid (HR.out.below hb2)
  clear hO2 hvl hb2 HT2 HR
  rw [HZ.out]
  go_wp2_with fail
  refine (HT3.out w2 HB2.out).mono ?_
  rintro e w3 ⟨hor, hb3⟩
  have HB3 := Lib.hid (HB2.out.trans (hb3.mono HB2.out.size))
  have HR3 := Lib.hid (HR2.out.below hb3)
  clear hb3 HT3 HR2
  rcases hor with ⟨-, rfl⟩ | ⟨hno, -⟩
  · rw [HZ.out]
    have hT4 := same_any (some ⟨g, 0, none⟩) C n n n e' vs vs w3 HR3.out (HX.out.below (HB3.out.mono (Nat.le_refl _))) hm
    rw [decide_eq_true rfl] at hT4
    have HT4 := Lib.hid hT4
    clear hT4
    go_wp2_with fail
    refine HT4.out.mono ?_
    rintro e w4 ⟨rfl, hb4⟩
    have HB4 := Lib.hid (HB3.out.trans (hb4.mono HB3.out.size))
    clear hb4 HT4
    go_wp2
    go_ret
    exact ⟨rfl, HB4.out⟩
  · exact absurd HFE.out hno

theorem BsAt.new2 {w : World} {g : Nat} {t : TypeId} {a b : Bool} (h : Blk w g t #[.bool a, .bool b]) : BsAt w (some ⟨g, 0, none⟩) 2 [a, b] :=
  ⟨rfl, fun _ => ⟨g, 0, rfl, h.lt, fun j hj => by
    match j, hj with
    | 0, _ => exact h.cell 0
    | 1, _ => exact h.cell 1⟩⟩
theorem IsAt.new2 {w : World} {g : Nat} {t : TypeId} {a b : Int} (h : Blk w g t #[.int .i64 a, .int .i64 b]) : IsAt w (some ⟨g, 0, none⟩) 2 [a, b] :=
  ⟨rfl, fun _ => ⟨g, 0, rfl, h.lt, fun j hj => by
    match j, hj with
    | 0, _ => exact h.cell 0
    | 1, _ => exact h.cell 1⟩⟩
theorem ex_opt1 : En.Opt (pus exU [true, true]) 7 [5, 2] := ⟨rfl, 2, 1, by simp [En.Thr, pus, exU, PU.lo, PU.hi, En.qle]; omega⟩
theorem ex_opt2 : En.Opt (pus exU [true, true]) 9 [5, 4] := ⟨rfl, 3, 1, by simp [En.Thr, pus, exU, PU.lo, PU.hi, En.qle]; omega⟩
theorem ex_opt3 : En.Opt (pus exU [false, true]) 4 [0, 4] := ⟨rfl, 3, 1, by simp [En.Thr, pus, exU, PU.lo, PU.hi, En.qle]; omega⟩
theorem ex_e1 : aerr exU [true, true] 2 7 = 0 := by decide
theorem ex_e2 : aerr exU [true, true] 2 9 = 0 := by decide
theorem ex_e3 : aerr exU [false, true] 2 4 = 0 := by decide
theorem ex_e4 : aerr exU [true, true] 2 1 = 8 := by decide
theorem ex_e5 : aerr exU [true, true] 2 16 = 8 := by decide
theorem ex_e6 : aerr exU [true, true] 2 (-1) = 1 := by decide
theorem ex_r1 : rmin (exU.zip [true, true]) = 2 := by decide
theorem ex_r2 : rmax (exU.zip [true, true]) = 15 := by decide
theorem ex_c1 : En.costR (pus exU [true, true]) [5, 2] = 9 := by decide
theorem ex_c2 : En.costR (pus exU [true, true]) [5, 4] = 14 := by decide
theorem ex_c3 : En.costR (pus exU [false, true]) [0, 4] = 9 := by decide

end Go.Proofs.YthpldmlpononhaaGreat
