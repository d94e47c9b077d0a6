/-
The statement EnergyConvexity: the walk. No statement of the seat is proved here; no conditions beyond those of each theorem.
-/
import Derived.Test.YthpldmlpononhaaGreatL3
namespace Go.Proofs.YthpldmlpononhaaGreat
set_option linter.unusedVariables false
set_option linter.unusedSimpArgs false
open Go.RowKit
open Wd
open En (Pc PU)

theorem lc_convex {us : List Un} {bs : List Bool} {m : Nat} {f : Int} (p0 : LcP us bs m f) (p1 : LcP us bs m (f + 1)) (p2 : LcP us bs m (f + 2)) (e0 : aerr us bs m f = 0) (e1 : aerr us bs m (f + 1) = 0) (e2 : aerr us bs m (f + 2) = 0) :
    lcV us bs m (f + 1) - lcV us bs m f ≤ lcV us bs m (f + 2) - lcV us bs m (f + 1) := by
  obtain ⟨h1, _⟩ := aerr_ok e0
  obtain ⟨_, _, hok⟩ := echk_ok h1
  unfold lcV
  rw [if_pos e0, if_pos e1, if_pos e2]
  exact En.Opt.convex (pus_allok hok) (p0 e0).1 (p1 e1).1 (p2 e2).1

set_option maxRecDepth 100000 in
set_option maxHeartbeats 4000000 in
theorem convex_any (A B : Option Addr) (n c m d : Nat) (us : List Un) (bs : List Bool) (f : Int) (w : World) (h : UsRaw w A n us) (h' : BsAt w B m bs) (hf : Fits f) :
    Calls Tryz.prog 14 #[.slice A n c, .slice B m d, .int .i64 f] w fun e w' => e = .returned (.bool true) ∧ Below w.heap.size w w' := by
  have T1 := long28_any A B n c m d us bs w h h'.1
  have HAW := Lib.hid (fun W => awake28_any W)
  cases hlg : longB us m
  · obtain ⟨hU, hn, hmn⟩ := h.at hlg
    rw [hlg] at T1
    have HT1 := Lib.hid T1
    by_cases hbig : 1099511627776 < f
    · have d1 : decide (1099511627776 < f) = true := by simpa using hbig
      clear h h' hlg T1 hU hf hbig
      go_enter Tryz.func14, Tryz.ntmps14
      go_wp2_with fail
      refine HT1.out.mono ?_
      rintro e w1 ⟨rfl, rfl⟩
      go_wp2_with fail
      refine (HAW.out _).mono ?_
      rintro e w2 ⟨rfl, hb2⟩
      go_wp2
      go_ret
      exact ⟨rfl, hb2⟩
    · have d1 : decide (1099511627776 < f) = false := by simpa using hbig
      have w1f : IntKind.i64.wrap (f + 1) = f + 1 := by unfold Fits at hf; rw [IntKind.wrap_i64]; omega
      have w2f : IntKind.i64.wrap (f + 2) = f + 2 := by unfold Fits at hf; rw [IntKind.wrap_i64]; omega
      have w1f' : wrap64 (f + 1) = f + 1 := by unfold Fits at hf; unfold wrap64; omega
      have w2f' : wrap64 (f + 2) = f + 2 := by unfold Fits at hf; unfold wrap64; omega
      have HLC := Lib.hid (fun f' W (hW : Below w.heap.size w W) => elc_any A B n c m d us bs f' W (hU.below hW) (h'.below hW) (by omega) (by omega))
      have HBL := Lib.hid h'.1
      clear h h' hlg T1 hU hf hbig
      go_enter Tryz.func14, Tryz.ntmps14
      go_wp2_with fail
      refine HT1.out.mono ?_
      rintro e w1 ⟨rfl, rfl⟩
      go_wp2_with fail
      refine (HAW.out _).mono ?_
      rintro e v0 ⟨rfl, hb0⟩
      have HB0 := Lib.hid hb0
      clear hb0 HT1
      go_wp2_with fail
      refine (HLC.out _ _ HB0.out).mono ?_
      rintro e v1 ⟨rfl, hp1, hb1⟩
      have HB1 := Lib.hid (HB0.out.trans (hb1.mono HB0.out.size))
      have HP1 := Lib.hid hp1
      clear hb1 hp1
      go_wp2_with fail
      refine (HLC.out _ _ HB1.out).mono ?_
      rintro e v2 ⟨rfl, hp2, hb2⟩
      have HB2 := Lib.hid (HB1.out.trans (hb2.mono HB1.out.size))
      have HP2 := Lib.hid hp2
      clear hb2 hp2
      go_wp2_with fail
      refine (HLC.out _ _ HB2.out).mono ?_
      rintro e v3 ⟨rfl, hp3, hb3⟩
      have HB3 := Lib.hid (HB2.out.trans (hb3.mono HB2.out.size))
      have HP3 := Lib.hid hp3
      clear hb3 hp3 w1f w2f w1f' w2f'
      have HCV := Lib.hid (lc_convex HP1.out HP2.out HP3.out)
      have b1 := lcV_bd HBL.out HP1.out
      have b2 := lcV_bd HBL.out HP2.out
      have b3 := lcV_bd HBL.out HP3.out
      generalize lcV us bs m f = z1 at *
      generalize lcV us bs m (f + 1) = z2 at *
      generalize lcV us bs m (f + 2) = z3 at *
      generalize aerr us bs m f = e1 at *
      generalize aerr us bs m (f + 1) = e2 at *
      generalize aerr us bs m (f + 2) = e3 at *
      have q1 : -45000000000000 ≤ z1 ∧ z1 ≤ 45000000000000 := by omega
      have q2 : -45000000000000 ≤ z2 ∧ z2 ≤ 45000000000000 := by omega
      have q3 : -45000000000000 ≤ z3 ∧ z3 ≤ 45000000000000 := by omega
      obtain ⟨q11, q12⟩ := q1
      obtain ⟨q21, q22⟩ := q2
      obtain ⟨q31, q32⟩ := q3
      clear HP1 HP2 HP3 b1 b2 b3
      by_cases g1 : e1 = 0
      · by_cases g2 : e2 = 0
        · by_cases g3 : e3 = 0
          · have hcv := HCV.out g1 g2 g3
            have d5 : decide (z2 - z1 ≤ z3 - z2) = true := by simpa using hcv
            subst g1 g2 g3
            clear HCV
            go_wp2
            go_ret
            exact ⟨by simp [hcv], HB3.out⟩
          · have d4 : (e3 != 0) = true := by simpa using g3
            subst g1 g2
            clear HCV
            go_wp2
            go_ret
            exact ⟨rfl, HB3.out⟩
        · have d4 : (e2 != 0) = true := by simpa using g2
          subst g1
          clear HCV
          go_wp2
          go_ret
          exact ⟨rfl, HB3.out⟩
      · have d4 : (e1 != 0) = true := by simpa using g1
        clear HCV
        go_wp2
        go_ret
        exact ⟨rfl, HB3.out⟩
  · rw [hlg] at T1
    have HT1 := Lib.hid T1
    clear h h' hlg T1 hf
    go_enter Tryz.func14, Tryz.ntmps14
    go_wp2_with fail
    refine HT1.out.mono ?_
    rintro e w1 ⟨rfl, rfl⟩
    go_wp2_with fail
    refine (HAW.out _).mono ?_
    rintro e w2 ⟨rfl, hb2⟩
    go_wp2
    go_ret
    exact ⟨rfl, hb2⟩

end Go.Proofs.YthpldmlpononhaaGreat
