/-
The statement CommitPlanMatches: the walk. No statement of the seat is proved here; no conditions beyond those of each theorem.
-/
import Derived.Test.YtdoeejcmaeefcaaGreatJPr
import Derived.Test.YtdoeejcmaeefcaaGreatIA
import Derived.Test.YtdoeejcmaeefcaaGreatHU
import Derived.Test.YtdoeejcmaeefcaaGreatIB
namespace Go.Proofs.YtdoeejcmaeefcaaGreat
set_option linter.unusedVariables false
set_option linter.unusedSimpArgs false
open Go.RowKit
open Wd
open Cm

theorem PnR.no {us : List Un} {hs : List Hr} (h : ¬ (cchk us hs = 0 ∧ ∃ c v, bestV us hs = some (c, v))) : ∃ ev : Int, ∀ w e w', PnR us hs w e w' → e = .returned (.tuple #[.slice none 0 0, .int .i64 ev]) ∧ Below w.heap.size w w' := by
  by_cases hc : cchk us hs = 0
  · refine ⟨8, fun w e w' hp => ?_⟩
    obtain ⟨hb, ⟨h1, _⟩ | ⟨_, _, he⟩ | ⟨_, h2, _⟩⟩ := hp
    · exact absurd hc h1
    · exact ⟨he, hb⟩
    · exact absurd ⟨hc, h2⟩ h
  · refine ⟨cchk us hs, fun w e w' hp => ?_⟩
    obtain ⟨hb, ⟨_, he⟩ | ⟨h1, _, _⟩ | ⟨h1, _, _⟩⟩ := hp
    · exact ⟨he, hb⟩
    · exact absurd h1 hc
    · exact absurd h1 hc
theorem PnR.yes {us : List Un} {hs : List Hr} (h : cchk us hs = 0 ∧ ∃ c v, bestV us hs = some (c, v)) : ∀ w e w', PnR us hs w e w' → Below w.heap.size w w' ∧ ∃ g, e = .returned (.tuple #[.slice (some ⟨g, 0, none⟩) hs.length hs.length, .int .i64 0]) ∧ OwnPl w' w.heap.size g (planB us hs) := by
  intro w e w' hp
  obtain ⟨c, v, hv⟩ := h.2
  obtain ⟨hb, ⟨h1, _⟩ | ⟨_, h2, _⟩ | ⟨_, _, h3⟩⟩ := hp
  · exact absurd h.1 h1
  · rw [hv] at h2; simp at h2
  · exact ⟨hb, h3⟩
/-- Rows of n booleans in blocks of their own. -/
def FlpR (w4 : World) (g m n : Nat) (wr : World) : Prop :=
  Kp w4 wr ∧ ∃ gl : List Nat, gl.length = m ∧ Blk wr g 35 (plC m n gl) ∧ ∀ j, j < m → w4.heap.size ≤ gl[j]?.getD 0 ∧ ∃ xs : List Bool, xs.length = n ∧ BRow wr (gl[j]?.getD 0) xs
theorem FlpR.of {w4 w5 : World} {g m n : Nat} {pl : List (List Bool)} (h : OwnPl w5 w4.heap.size g pl) (hb : Kp w4 w5) (hm : pl.length = m) (hr : ∀ r ∈ pl, r.length = n) : FlpR w4 g m n w5 := by
  obtain ⟨h1, gl, h2, h3, h4⟩ := h
  refine ⟨hb, gl, by omega, ?_, fun j hj => ⟨(h4 j (by omega)).1, pl[j]?.getD [], hr _ (gmem (by omega)), (h4 j (by omega)).2⟩⟩
  rw [plC_full (by omega) hm hr]
  exact h3
theorem FlpR.keep {w4 wr wr' : World} {g m n : Nat} (h : FlpR w4 g m n wr) (hb : Kp wr wr') : FlpR w4 g m n wr' := by
  obtain ⟨h1, gl, h2, h3, h4⟩ := h
  exact ⟨Kp.trans h1 hb, gl, h2, Kp.blk hb h3, fun j hj => ⟨(h4 j hj).1, by obtain ⟨xs, q1, q2⟩ := (h4 j hj).2; exact ⟨xs, q1, Kp.blk hb q2⟩⟩⟩
theorem FlpR.flip {w4 wr : World} {g m n i k : Nat} (h : FlpR w4 g m n wr) (hi : i < m) (hk : k < n) : ∃ gi b, wr.cell? ⟨g, i, none⟩ = some (.slice (some ⟨gi, 0, none⟩) n n) ∧ wr.cell? ⟨gi, k, none⟩ = some (.bool b) ∧ wr.frozen? ⟨gi, k, none⟩ = false ∧ FlpR w4 g m n (wr.setCell ⟨gi, k, none⟩ (.bool (!b))) := by
  obtain ⟨h1, gl, h2, h3, h4⟩ := h
  obtain ⟨a1, xs, a2, a3⟩ := h4 i hi
  refine ⟨gl[i]?.getD 0, xs[k]?.getD false, ?_, a3.cell (by omega), Blk.frozen a3 k, Kp.set h1 (p := ⟨gl[i]?.getD 0, k, none⟩) a1 _, gl, h2, ?_, fun j hj => ⟨(h4 j hj).1, ?_⟩⟩
  · rw [h3.cell, plC_get (by omega)]
  · exact h3.far (p := ⟨gl[i]?.getD 0, k, none⟩) (Blk.apart h3 a3 (by decide)) _
  · obtain ⟨_, ys, b2, b3⟩ := h4 j hj
    by_cases he : gl[j]?.getD 0 = gl[i]?.getD 0
    · rw [he]
      exact ⟨xs.set k (!(xs[k]?.getD false)), by rw [List.length_set]; exact a2, a3.set k _⟩
    · exact ⟨ys, b2, Blk.far b3 (p := ⟨gl[i]?.getD 0, k, none⟩) he _⟩
theorem FlpR.drew {w4 wr : World} {g m n : Nat} (h : FlpR w4 g m n wr) : FlpR w4 g m n wr.drew := ⟨Kp.drew h.1, h.2⟩
theorem FlpR.row {w4 wr : World} {g m n i : Nat} (h : FlpR w4 g m n wr) (hi : i < m) : ∃ gi, wr.cell? ⟨g, i, none⟩ = some (.slice (some ⟨gi, 0, none⟩) n n) := by
  obtain ⟨h1, gl, h2, h3, h4⟩ := h
  exact ⟨gl[i]?.getD 0, by rw [h3.cell, plC_get (by omega)]⟩

set_option maxRecDepth 100000 in
set_option maxHeartbeats 8000000 in
theorem cplan_any (A B : Option Addr) (n c m d : Nat) (us : List Un) (hs : List Hr) (w : World) (h : UsRaw w A n us) (h' : HsAt w B m hs) :
    Calls Tryz.prog 4 #[.slice A n c, .slice B m d] w fun e w' => e = .returned (.bool true) ∧ Below w.heap.size w w' := by
  have T0 := long29_any A B n c m d us hs w h h'
  have HAW := Lib.hid awake29_any
  have HH := Lib.hid h'
  cases hL : long29 us hs with
  | true =>
    rw [hL] at T0
    have HT := Lib.hid T0
    clear h h' T0 hL
    go_enter Tryz.func4, Tryz.ntmps4
    go_wp2_with fail
    refine HT.out.mono ?_
    rintro e w1 ⟨rfl, rfl⟩
    clear HT
    go_wp2_with fail
    refine (HAW.out _).mono ?_
    rintro e w2 ⟨rfl, hb2⟩
    have HB2 := Lib.hid hb2
    clear hb2
    go_wp2
    go_ret
    exact ⟨rfl, HB2.out⟩
  | false =>
    rw [hL] at T0
    obtain ⟨g1, g2, g3⟩ := long29_no hL
    obtain ⟨u1, u2, _⟩ := h.at g1
    have HT := Lib.hid T0
    have HU := Lib.hid u1
    have HO := Lib.hid g3
    have hm20 : m ≤ 20 := by have := h'.1; omega
    have hnl := u1.1
    have hml := h'.1
    have HM := Lib.hid (many_any A B n c m d w)
    by_cases hmy : n ≤ 5 ∧ m ≤ 8 ∧ 9 < n * m
    · rw [decide_eq_true hmy] at HM
      clear h h' T0 hL g1 g2 g3 u1 hmy
      go_enter Tryz.func4, Tryz.ntmps4
      go_wp2_with fail
      refine HT.out.mono ?_
      rintro e w1 ⟨rfl, rfl⟩
      clear HT
      go_wp2_with fail
      refine HM.out.mono ?_
      rintro e w1 ⟨rfl, hb1⟩
      have HB1 := Lib.hid hb1
      clear HM hb1
      go_wp2_with fail
      refine (HAW.out _).mono ?_
      rintro e w2 ⟨rfl, hb2⟩
      have HB2 := Lib.hid (Kp.trans (show Kp w w1 from HB1.out) hb2)
      clear hb2
      go_wp2
      go_ret
      exact ⟨rfl, HB2.out⟩
    · rw [decide_eq_false hmy] at HM
      have hnm : cchk us hs = 0 → n * m ≤ 9 := fun hc => by
        obtain ⟨k1, _, _, k4, _⟩ := cchk_ok.1 hc
        omega
      have HRF := Lib.hid (fun W (hW : Kp w W) => r29Plan_raw A B n c m d us hs W (HU.out.below hW) (HH.out.below hW) hnm)
      have HPF := Lib.hid (fun W (hW : Kp w W) => plan_raw A B n c m d us hs W (HU.out.below hW) (HH.out.below hW) HO.out (by omega) (by omega))
      clear h h' T0 hL g1 g2 g3 u1 hnm hmy
      by_cases hz : cchk us hs = 0 ∧ ∃ c v, bestV us hs = some (c, v)
      · have HZ := Lib.hid (PnR.yes hz)
        obtain ⟨c0, v0, hv0⟩ := hz.2
        obtain ⟨s1, s2, _⟩ := planB_shape hv0
        have HPL := Lib.hid (show (planB us hs).length = m ∧ ∀ r ∈ planB us hs, r.length = n from ⟨by omega, fun r hr => by rw [s2 r hr]; exact hnl⟩)
        have hm8 : m ≤ 8 ∧ n ≤ 5 := by
          obtain ⟨k1, _, _, k4, _⟩ := cchk_ok.1 hz.1
          omega
        have HOK := Lib.hid (show PlOk (planB us hs) from fun r hr => by rw [HPL.out.2 r hr]; omega)
        rw [hml] at HZ
        clear hz hv0 s1 s2
        generalize planB us hs = pl at *
        have hnn : (!true) = false := rfl
        go_enter Tryz.func4, Tryz.ntmps4
        go_wp2_with fail
        refine HT.out.mono ?_
        rintro e w1 ⟨rfl, rfl⟩
        clear HT
        go_wp2_with fail
        refine HM.out.mono ?_
        rintro e w1 ⟨rfl, hb1⟩
        have HB1 := Lib.hid (show Kp w w1 from hb1)
        clear HM hb1
        go_wp2_with fail
        refine (HRF.out w1 HB1.out).mono ?_
        intro e w2 hp2
        obtain ⟨hb2, gw, rfl, hw2⟩ := HZ.out _ _ _ hp2
        have HB2 := Lib.hid (Kp.trans HB1.out hb2)
        have HW2 := Lib.hid (hw2.at HPL.out.1)
        clear hp2 hb2 hw2 HRF
        go_wp2_with fail
        go_loopw [7] (fun t wr => ∃ r : Nat, r ≤ 2 ∧ t = .int .i64 r ∧ Hid (Kp w2 wr)) (fun t _ => 2 - (intOf t).toNat)
        case atStart => exact ⟨0, by omega, rfl, Kp.refl _⟩
        case round =>
          obtain ⟨r, hr, rfl, hR⟩ := hrel
          obtain ⟨w3, rfl⟩ : ∃ v, v = wr := ⟨_, rfl⟩
          by_cases hlr : r < 2
          · have HB3 := Lib.hid (Kp.trans HB2.out hR.out)
            have HK3 := Lib.hid hR.out
            have hr1 : (r : Int) < 2 := by omega
            clear hR
            go_wp2_with fail
            refine (HPF.out w3 HB3.out).mono ?_
            intro e w4 hp4
            obtain ⟨hb4, g, rfl, hw4⟩ := HZ.out _ _ _ hp4
            have HK4 := Lib.hid (show Kp w3 w4 from hb4)
            have HK24 := Lib.hid (Kp.trans HK3.out hb4)
            have HF4 := Lib.hid (FlpR.of hw4 hb4 HPL.out.1 HPL.out.2)
            have HT5 := sameAll_any (some ⟨g, 0, none⟩) (some ⟨gw, 0, none⟩) m m m m pl pl w4 (hw4.at HPL.out.1) (HW2.out.below HK24.out) HOK.out HOK.out (by omega) (by omega)
            rw [decide_eq_true (rfl : pl = pl)] at HT5
            have HT5 := Lib.hid HT5
            clear hp4 hb4 hw4
            go_wp2_with fail
            refine HT5.out.mono ?_
            rintro e w5 ⟨rfl, hb5⟩
            have HF5 := Lib.hid (HF4.out.keep hb5)
            clear HF4 HT5 hb5
            go_wp2_with fail
            go_loopw [10] (fun t wr => ∃ i : Nat, i ≤ m ∧ t = .int .i64 i ∧ Hid (FlpR w3 g m n wr)) (fun t _ => m - (intOf t).toNat)
            case atStart => exact ⟨0, Nat.zero_le _, rfl, HF5.out⟩
            case round =>
              clear HF5
              obtain ⟨i, hi, rfl, hR⟩ := hrel
              obtain ⟨w6, rfl⟩ : ∃ v, v = wr := ⟨_, rfl⟩
              by_cases hli : i < m
              · have HF6 := Lib.hid hR.out
                have i1 : (0 : Int) ≤ (i : Int) := by omega
                have i2 : (i : Int) < (m : Int) := by omega
                clear hR
                go_wp2_with fail
                go_loopw [11] (fun t wr => ∃ k : Nat, k ≤ n ∧ t = .int .i64 k ∧ Hid (FlpR w3 g m n wr)) (fun t _ => n - (intOf t).toNat)
                case atStart => exact ⟨0, Nat.zero_le _, rfl, HF6.out⟩
                case round =>
                  clear HF6
                  obtain ⟨k, hk, rfl, hR⟩ := hrel
                  obtain ⟨w7, rfl⟩ : ∃ v, v = wr := ⟨_, rfl⟩
                  by_cases hlk : k < n
                  · obtain ⟨gi, b, z0, z1, z2, z3⟩ := hR.out.flip hli hlk
                    have HN := Lib.hid z3
                    have k1 : (0 : Int) ≤ (k : Int) := by omega
                    have k2 : (k : Int) < (n : Int) := by omega
                    clear hR z3
                    go_wp2
                    go_region
                    all_goals go_wp2
                    all_goals go_roundw
                    case rel => exact ⟨k + 1, by omega, by go_num, Lib.hid HN.out.drew⟩
                    case measure => simp [intOf]; omega
                  · obtain rfl : n = k := by omega
                    obtain ⟨gi, z0⟩ := hR.out.row hli
                    have HN := Lib.hid hR.out
                    clear hR
                    go_wp2
                    go_roundw
                    case rel => exact ⟨i + 1, by omega, by go_num, HN.out⟩
                    case measure => simp [intOf]; omega
              · obtain rfl : m = i := by omega
                have HN := Lib.hid (Kp.trans HK3.out hR.out.1)
                clear hR
                go_wp2
                go_roundw
                case rel => exact ⟨r + 1, by omega, by go_num, HN.out⟩
                case measure => simp [intOf]; omega
          · obtain rfl : r = 2 := by omega
            have HB3 := Lib.hid (Kp.trans HB2.out hR.out)
            clear hR
            go_wp2_with fail
            refine (HAW.out _).mono ?_
            rintro e w9 ⟨rfl, hb9⟩
            have HB9 := Lib.hid (Kp.trans HB3.out hb9)
            clear hb9
            go_wp2
            go_ret
            exact ⟨rfl, HB9.out⟩
      · obtain ⟨ev, hev⟩ := PnR.no hz
        have HZ := Lib.hid hev
        have HT5 := Lib.hid (fun w4 => sameAll_any none none 0 0 0 0 [] [] w4 ⟨rfl, fun h => absurd rfl h⟩ ⟨rfl, fun h => absurd rfl h⟩ (fun r hr => absurd hr (by simp)) (fun r hr => absurd hr (by simp)) (by omega) (by omega))
        have hnn : (!true) = false := rfl
        have hee : (ev != ev) = false := by simp
        clear hz hev
        go_enter Tryz.func4, Tryz.ntmps4
        go_wp2_with fail
        refine HT.out.mono ?_
        rintro e w1 ⟨rfl, rfl⟩
        clear HT
        go_wp2_with fail
        refine HM.out.mono ?_
        rintro e w1 ⟨rfl, hb1⟩
        have HB1 := Lib.hid (show Kp w w1 from hb1)
        clear HM hb1
        go_wp2_with fail
        refine (HRF.out w1 HB1.out).mono ?_
        intro e w2 hp2
        obtain ⟨rfl, hb2⟩ := HZ.out _ _ _ hp2
        have HB2 := Lib.hid (Kp.trans HB1.out hb2)
        clear hp2 hb2 HRF
        go_wp2_with fail
        go_loopw [7] (fun t wr => ∃ r : Nat, r ≤ 2 ∧ t = .int .i64 r ∧ Hid (Kp w wr)) (fun t _ => 2 - (intOf t).toNat)
        case atStart => exact ⟨0, by omega, rfl, HB2.out⟩
        case round =>
          obtain ⟨r, hr, rfl, hR⟩ := hrel
          obtain ⟨w3, rfl⟩ : ∃ v, v = wr := ⟨_, rfl⟩
          by_cases hlr : r < 2
          · have HB3 := Lib.hid hR.out
            have hr1 : (r : Int) < 2 := by omega
            clear hR
            go_wp2_with fail
            refine (HPF.out w3 HB3.out).mono ?_
            intro e w4 hp4
            obtain ⟨rfl, hb4⟩ := HZ.out _ _ _ hp4
            have HB4 := Lib.hid (Kp.trans HB3.out hb4)
            clear hp4 hb4
            go_wp2_with fail
            refine (HT5.out w4).mono ?_
            rintro e w5 ⟨rfl, hb5⟩
            have HB5 := Lib.hid (Kp.trans HB4.out hb5)
            clear hb5
            have hdt : decide (([] : List (List Bool)) = []) = true := rfl
            go_wp2_with fail
            go_loopw [10] (fun t wr => t = .int .i64 0 ∧ Hid (Kp w wr)) (fun t _ => 0)
            case atStart => exact ⟨rfl, HB5.out⟩
            case round =>
              obtain ⟨rfl, hR⟩ := hrel
              obtain ⟨w6, rfl⟩ : ∃ v, v = wr := ⟨_, rfl⟩
              have HB6 := Lib.hid hR.out
              clear hR
              go_wp2
              go_roundw
              case rel => exact ⟨r + 1, by omega, by go_num, HB6.out⟩
              case measure => simp [intOf]; omega
          · obtain rfl : r = 2 := by omega
            have HB3 := Lib.hid hR.out
            clear hR
            go_wp2_with fail
            refine (HAW.out _).mono ?_
            rintro e w9 ⟨rfl, hb9⟩
            have HB9 := Lib.hid (Kp.trans HB3.out hb9)
            clear hb9
            go_wp2
            go_ret
            exact ⟨rfl, HB9.out⟩

end Go.Proofs.YtdoeejcmaeefcaaGreat
