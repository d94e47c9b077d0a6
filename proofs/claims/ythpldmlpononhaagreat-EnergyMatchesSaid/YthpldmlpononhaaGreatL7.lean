/-
The statement EnergyMatches: the walk. No statement of the seat is proved here; no conditions beyond those of each theorem.
-/
import Derived.Test.YthpldmlpononhaaGreatL3
import Derived.Test.YthpldmlpononhaaGreatT3
namespace Go.Proofs.YthpldmlpononhaaGreat
set_option linter.unusedVariables false
set_option linter.unusedSimpArgs false
open Go.RowKit
open Wd

/-- What Range returns. -/
def rgA (us : List Un) (bs : List Bool) (m : Nat) : Int := if echk us m = 0 then rmin (us.zip bs) else 0
def rgB (us : List Un) (bs : List Bool) (m : Nat) : Int := if echk us m = 0 then rmax (us.zip bs) else 0
theorem erange_any (A B : Option Addr) (n c m d : Nat) (us : List Un) (bs : List Bool) (w : World) (h : UsAt w A n us) (h' : BsAt w B m bs) (hm : n ≤ 1000000000000) (hm' : m ≤ 1000000000000) :
    Calls Tryz.prog 43 #[.slice A n c, .slice B m d] w fun e w' => e = .returned (.tuple #[.int .i64 (rgA us bs m), .int .i64 (rgB us bs m), .int .i64 (echk us m)]) ∧ Below w.heap.size w w' := by
  unfold rgA rgB
  by_cases he : echk us m = 0
  · rw [if_pos he, if_pos he, he]; exact erange_ok A B n c m d us bs w h h' hm hm' he
  · rw [if_neg he, if_neg he]; exact erange_no A B n c m d us bs w h h' hm hm' he
theorem rerange_any (A B : Option Addr) (n c m d : Nat) (us : List Un) (bs : List Bool) (w : World) (h : UsAt w A n us) (h' : BsAt w B m bs) :
    Calls Tryz.prog 44 #[.slice A n c, .slice B m d] w fun e w' => e = .returned (.tuple #[.int .i64 (rgA us bs m), .int .i64 (rgB us bs m), .int .i64 (echk us m)]) ∧ Below w.heap.size w w' := by
  unfold rgA rgB
  by_cases he : echk us m = 0
  · rw [if_pos he, if_pos he, he]; exact rerange_ok A B n c m d us bs w h h' he
  · rw [if_neg he, if_neg he]; exact rerange_no A B n c m d us w h he

set_option maxRecDepth 100000 in
set_option maxHeartbeats 4000000 in
theorem matches_any (A B : Option Addr) (n c m d : Nat) (us : List Un) (bs : List Bool) (w : World) (h : UsRaw w A n us) (h' : BsAt w B m bs) :
    Calls Tryz.prog 10 #[.slice A n c, .slice B m d] w fun e w' => e = .returned (.bool true) ∧ Below w.heap.size w w' := by
  have T1 := long28_any A B n c m d us bs w h h'.1
  have HAW := Lib.hid (fun W => awake28_any W)
  cases hlg : longB us m
  · obtain ⟨hU, hn, hmn⟩ := h.at hlg
    rw [hlg] at T1
    have HT1 := Lib.hid T1
    have HR1 := Lib.hid (fun W (hW : Below w.heap.size w W) => erange_any A B n c m d us bs W (hU.below hW) (h'.below hW) (by omega) (by omega))
    have HR2 := Lib.hid (fun W (hW : Below w.heap.size w W) => rerange_any A B n c m d us bs W (hU.below hW) (h'.below hW))
    have HR3 := Lib.hid (fun W (hW : Below w.heap.size w W) => echeck_any A B n c m d us bs W (hU.below hW) (h'.below hW) (by omega) (by omega))
    have HR4 := Lib.hid (fun W (hW : Below w.heap.size w W) => recheck_any A B n c m d us W (hU.below hW))
    clear h h' hlg T1 hU
    generalize echk us m = x at *
    generalize rgA us bs m = y at *
    generalize rgB us bs m = z at *
    have d1 : (x == x) = true := by simp
    have d2 : (y == y) = true := by simp
    have d3 : (z == z) = true := by simp
    go_enter Tryz.func10, Tryz.ntmps10
    go_wp2_with fail
    refine HT1.out.mono ?_
    rintro e w1 ⟨rfl, rfl⟩
    clear HT1
    go_wp2_with fail
    refine (HR1.out _ (Below.refl _ _)).mono ?_
    rintro e v1 ⟨rfl, hb1⟩
    have HB1 := Lib.hid hb1
    clear hb1 HR1
    go_wp2_with fail
    refine (HR2.out _ HB1.out).mono ?_
    rintro e v2 ⟨rfl, hb2⟩
    have HB2 := Lib.hid (HB1.out.trans (hb2.mono HB1.out.size))
    clear hb2 HR2
    go_wp2_with fail
    refine (HR3.out _ HB2.out).mono ?_
    rintro e v3 ⟨rfl, hb3⟩
    have HB3 := Lib.hid (HB2.out.trans (hb3.mono HB2.out.size))
    clear hb3 HR3
    go_wp2_with fail
    refine (HR4.out _ HB3.out).mono ?_
    rintro e v4 ⟨rfl, hb4⟩
    have HB4 := Lib.hid (HB3.out.trans (hb4.mono HB3.out.size))
    clear hb4 HR4
    go_wp2_with fail
    refine (HAW.out _).mono ?_
    rintro e v5 ⟨rfl, hb5⟩
    have HB5 := Lib.hid (HB4.out.trans (hb5.mono HB4.out.size))
    clear hb5
    go_wp2
    go_ret
    exact ⟨rfl, HB5.out⟩
  · rw [hlg] at T1
    have HT1 := Lib.hid T1
    clear h h' hlg T1
    go_enter Tryz.func10, Tryz.ntmps10
    go_wp2_with fail
    refine HT1.out.mono ?_
    rintro e w1 ⟨rfl, rfl⟩
    go_wp2_with fail
    refine (HAW.out _).mono ?_
    rintro e w2 ⟨rfl, hb2⟩
    go_wp2
    go_ret
    exact ⟨rfl, hb2⟩

end Go.Proofs.YthpldmlpononhaaGreat
