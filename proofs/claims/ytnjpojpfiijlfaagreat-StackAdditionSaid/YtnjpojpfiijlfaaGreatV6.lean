/-
The walk of StackAddition. No statement of the seat is proved here; no conditions beyond those of each theorem.
-/
import Derived.Test.YtnjpojpfiijlfaaGreatV5
import Derived.Test.YtnjpojpfiijlfaaGreatQ15
import Derived.Test.YtnjpojpfiijlfaaGreatGG
namespace Go.Proofs.YtnjpojpfiijlfaaGreat
set_option linter.unusedVariables false
set_option linter.unusedSimpArgs false
open Go.RowKit
open Wd

theorem long_one (Am : Option Addr) (nm cm : Nat) (more : List (Int × Int)) (w : World) (hm : StAt w Am nm more) : ∀ W, Below w.heap.size w W →
    Calls Tryz.prog 20 #[.slice (some ⟨W.heap.size, 0, none⟩) 1 1] (W.alloc (.cells #[.slice Am nm cm] 29)) fun e w' => e = .returned (.bool (longC [more])) ∧ Below (W.alloc (.cells #[.slice Am nm cm] 29)).heap.size (W.alloc (.cells #[.slice Am nm cm] 29)) w' := fun W hW =>
  long24_any _ 1 1 [more] _ (CsAt.one (Blk.new W 29 #[.slice Am nm cm]) ((hm.below hW).below ((Kp.refl W).alloc _)))

set_option maxRecDepth 100000 in
set_option maxHeartbeats 4000000 in
theorem sadd_short (A : Option Addr) (n c : Nat) (ls : List (List (Int × Int))) (bids : Bool) (Am : Option Addr) (nm cm : Nat) (more : List (Int × Int)) (w : World) (h : CsAt w A n ls) (hm : StAt w Am nm more) (hx : longC ls = true ∨ longC [more] = true ∨ 16 ≤ n) : Calls Tryz.prog 7 #[.slice A n c, .bool bids, .slice Am nm cm] w fun e w' => e = .returned (.bool true) ∧ Below w.heap.size w w' := by
  have HAW := Lib.hid (fun W => awake24_any W)
  have HL1 := Lib.hid (long24_any A n c ls w h)
  have HL2 := Lib.hid (long_one Am nm cm more w hm)
  by_cases hlg : longC ls = true
  · rw [hlg] at HL1
    clear h hx hlg hm
    go_enter Tryz.func7, Tryz.ntmps7
    go_wp2_with fail
    refine HL1.out.mono ?_
    rintro e w1 ⟨rfl, hb1⟩
    have HB1 := Lib.hid hb1
    clear hb1 HL1
    go_wp2_with fail
    refine (HAW.out _).mono ?_
    rintro e wz ⟨rfl, hbz⟩
    have HBZ := Lib.hid (HB1.out.trans (hbz.mono HB1.out.size))
    clear hbz
    go_wp2
    go_ret
    exact ⟨rfl, HBZ.out⟩
  · rw [Bool.not_eq_true] at hlg
    rw [hlg] at HL1
    by_cases hl2 : longC [more] = true
    · rw [hl2] at HL2
      clear h hx hlg hm hl2
      go_enter Tryz.func7, Tryz.ntmps7
      go_wp2_with fail
      refine HL1.out.mono ?_
      rintro e w1 ⟨rfl, hb1⟩
      have HB1 := Lib.hid hb1
      clear hb1 HL1
      go_wp2_with fail
      have HK1 := Lib.hid (HB1.out.trans (((Below.refl _ _).alloc (Nat.le_refl _) (.cells #[.slice Am nm cm] 29) : Below w1.heap.size w1 (w1.alloc (.cells #[.slice Am nm cm] 29))).mono HB1.out.size))
      refine (HL2.out w1 HB1.out).mono ?_
      rintro e w2 ⟨rfl, hb2⟩
      have HB2 := Lib.hid (HK1.out.trans (hb2.mono HK1.out.size))
      clear hb2 HL2 HK1 HB1
      go_wp2_with fail
      refine (HAW.out _).mono ?_
      rintro e wz ⟨rfl, hbz⟩
      have HBZ := Lib.hid (HB2.out.trans (hbz.mono HB2.out.size))
      clear hbz
      go_wp2
      go_ret
      exact ⟨rfl, HBZ.out⟩
    · rw [Bool.not_eq_true] at hl2
      rw [hl2] at HL2
      have h16 : decide ((16 : Int) ≤ (n : Int)) = true := by
        rcases hx with hx | hx | hx
        · rw [hx] at hlg; simp at hlg
        · rw [hx] at hl2; simp at hl2
        · simp; omega
      have h16' : decide ((n : Int) < 16) = false := by simp at h16; simp; omega
      clear h hx hlg hm hl2
      go_enter Tryz.func7, Tryz.ntmps7
      go_wp2_with fail
      refine HL1.out.mono ?_
      rintro e w1 ⟨rfl, hb1⟩
      have HB1 := Lib.hid hb1
      clear hb1 HL1
      go_wp2_with fail
      have HK1 := Lib.hid (HB1.out.trans (((Below.refl _ _).alloc (Nat.le_refl _) (.cells #[.slice Am nm cm] 29) : Below w1.heap.size w1 (w1.alloc (.cells #[.slice Am nm cm] 29))).mono HB1.out.size))
      refine (HL2.out w1 HB1.out).mono ?_
      rintro e w2 ⟨rfl, hb2⟩
      have HB2 := Lib.hid (HK1.out.trans (hb2.mono HK1.out.size))
      clear hb2 HL2 HK1 HB1
      go_wp2_with fail
      refine (HAW.out _).mono ?_
      rintro e wz ⟨rfl, hbz⟩
      have HBZ := Lib.hid (HB2.out.trans (hbz.mono HB2.out.size))
      clear hbz
      go_wp2
      go_ret
      exact ⟨rfl, HBZ.out⟩

end Go.Proofs.YtnjpojpfiijlfaaGreat
