/-
The statement CommitCostMatches: the walk. No statement of the seat is proved here; no conditions beyond those of each theorem.
-/
import Derived.Test.YtdoeejcmaeefcaaGreatJCrd
import Derived.Test.YtdoeejcmaeefcaaGreatJCs1
import Derived.Test.YtdoeejcmaeefcaaGreatHU
import Derived.Test.YtdoeejcmaeefcaaGreatIB
namespace Go.Proofs.YtdoeejcmaeefcaaGreat
set_option linter.unusedVariables false
set_option linter.unusedSimpArgs false
open Go.RowKit
open Wd
open Cm

set_option maxRecDepth 100000 in
set_option maxHeartbeats 8000000 in
theorem ccmatch_any (A B C : Option Addr) (n c m d p q : Nat) (us : List Un) (hs : List Hr) (pl : List (List Bool)) (w : World) (h : UsRaw w A n us) (h' : HsAt w B m hs) (hp : PlAt w C p pl) (hpo : PlFit pl) :
    Calls Tryz.prog 3 #[.slice A n c, .slice B m d, .slice C p q] w fun e w' => e = .returned (.bool true) ∧ Below w.heap.size w w' := by
  have T0 := long29_any A B n c m d us hs w h h'
  have HAW := Lib.hid awake29_any
  have HH := Lib.hid h'
  have HP := Lib.hid hp
  have HPO := Lib.hid hpo
  cases hL : long29 us hs with
  | true =>
    rw [hL] at T0
    have HT := Lib.hid T0
    clear h h' hp hpo T0 hL
    go_enter Tryz.func3, Tryz.ntmps3
    go_wp2_with fail
    refine HT.out.mono ?_
    rintro e w1 ⟨rfl, rfl⟩
    clear HT
    go_wp2_with fail
    refine (HAW.out _).mono ?_
    rintro e w2 ⟨rfl, hb2⟩
    have HB2 := Lib.hid hb2
    clear hb2
    go_wp2
    go_ret
    exact ⟨rfl, HB2.out⟩
  | false =>
    rw [hL] at T0
    obtain ⟨g1, g2, g3⟩ := long29_no hL
    obtain ⟨u1, u2, _⟩ := h.at g1
    have HT := Lib.hid T0
    have HU := Lib.hid u1
    have HO := Lib.hid g3
    have hm20 : m ≤ 20 := by have := h'.1; omega
    clear h h' hp hpo T0 hL g1 g2 g3 u1
    by_cases hp30 : 30 < p
    · have d1' : (30 : Int) < (p : Int) := by omega
      go_enter Tryz.func3, Tryz.ntmps3
      go_wp2_with fail
      refine HT.out.mono ?_
      rintro e w1 ⟨rfl, rfl⟩
      clear HT
      go_wp2_with fail
      refine (HAW.out _).mono ?_
      rintro e w2 ⟨rfl, hb2⟩
      have HB2 := Lib.hid hb2
      clear hb2
      go_wp2
      go_ret
      exact ⟨rfl, HB2.out⟩
    · have d1' : ¬ (30 : Int) < (p : Int) := by omega
      have HC0 := Lib.hid (copied_any C p q pl w HP.out HPO.out (by omega))
      obtain ⟨v, x, hcv⟩ : ∃ v x, costV us hs pl = (v, x) := ⟨_, _, rfl⟩
      have HCV := Lib.hid hcv
      have ev : (v == v) = true := by simp
      have ex : (x == x) = true := by simp
      go_enter Tryz.func3, Tryz.ntmps3
      go_wp2_with fail
      refine HT.out.mono ?_
      rintro e w1 ⟨rfl, rfl⟩
      clear HT hcv
      go_wp2_with fail
      refine HC0.out.mono ?_
      rintro e w2 ⟨B2, cb2, rfl, hcp⟩
      have HB2 := Lib.hid (show Kp w w2 from hcp.1)
      have HP2 := Lib.hid (hcp.at HP.out.1)
      have T1 := ccost_raw A B B2 n c m d p cb2 us hs pl w2 (HU.out.below HB2.out) (HH.out.below HB2.out) HP2.out HO.out (by omega) (by omega)
      rw [HCV.out] at T1
      have HT1 := Lib.hid T1
      clear HC0 hcp T1
      go_wp2_with fail
      refine HT1.out.mono ?_
      rintro e w3 ⟨rfl, hb3⟩
      have HB3 := Lib.hid (Kp.trans HB2.out (show Kp w2 w3 from hb3))
      have HP3 := Lib.hid (HP2.out.below hb3)
      have T2 := r29Cost_raw A B C n c m d p q us hs pl w3 (HU.out.below HB3.out) (HH.out.below HB3.out) (HP.out.below HB3.out)
      rw [HCV.out] at T2
      have HT2 := Lib.hid T2
      clear HT1 hb3 T2
      go_wp2_with fail
      refine HT2.out.mono ?_
      rintro e w4 ⟨rfl, hb4⟩
      have HB4 := Lib.hid (Kp.trans HB3.out (show Kp w3 w4 from hb4))
      have T3 := sameAll_fit B2 C p cb2 p q pl pl w4 (HP3.out.below hb4) (HP.out.below HB4.out) HPO.out HPO.out (by omega) (by omega)
      rw [decide_eq_true (rfl : pl = pl)] at T3
      have HT3 := Lib.hid T3
      clear HT2 hb4 T3
      go_wp2_with fail
      refine HT3.out.mono ?_
      rintro e w5 ⟨rfl, hb5⟩
      have HB5 := Lib.hid (Kp.trans HB4.out (show Kp w4 w5 from hb5))
      clear HT3 hb5
      go_wp2_with fail
      refine (HAW.out _).mono ?_
      rintro e w6 ⟨rfl, hb6⟩
      have HB6 := Lib.hid (Kp.trans HB5.out hb6)
      clear hb6
      go_wp2
      go_ret
      exact ⟨rfl, HB6.out⟩

end Go.Proofs.YtdoeejcmaeefcaaGreat
