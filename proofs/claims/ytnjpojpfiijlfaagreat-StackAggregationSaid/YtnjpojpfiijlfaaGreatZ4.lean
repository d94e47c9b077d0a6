/-
The walk of StackAggregation. No statement of the seat is proved here; no conditions beyond those of each theorem.
-/
import Derived.Test.YtnjpojpfiijlfaaGreatZ3
import Derived.Test.YtnjpojpfiijlfaaGreatGL
import Derived.Test.YtnjpojpfiijlfaaGreatQ15
import Derived.Test.YtnjpojpfiijlfaaGreatGG
namespace Go.Proofs.YtnjpojpfiijlfaaGreat
set_option linter.unusedVariables false
set_option linter.unusedSimpArgs false
open Go.RowKit
open Wd
attribute [local go_sem ↓] Go.wp_at_zero Go.wp_at_succ

theorem long_q (an an' : Bool) (aA aA' : Option Addr) (ak ac ak' ac' : Nat) (W : World) :
    Calls Tryz.prog 31 #[.slice (some ⟨W.heap.size, 0, none⟩) 1 1] (W.alloc (.cells #[.bool an, .slice aA ak ac, .bool an', .slice aA' ak' ac'] 42)) fun e w' => e = .returned (.bool (decide (6 < ak) || decide (6 < ak'))) ∧ Below (W.alloc (.cells #[.bool an, .slice aA ak ac, .bool an', .slice aA' ak' ac'] 42)).heap.size (W.alloc (.cells #[.bool an, .slice aA ak ac, .bool an', .slice aA' ak' ac'] 42)) w' := by
  have := long23_any (some ⟨W.heap.size, 0, none⟩) 1 1 _ _ (QsAtR.one (Blk.new W 42 #[.bool an, .slice aA ak ac, .bool an', .slice aA' ak' ac'])) (by omega)
  simpa [bigQ] using this

set_option maxRecDepth 100000 in
set_option maxHeartbeats 4000000 in
theorem sagg_short (A : Option Addr) (n c : Nat) (ls : List (List (Int × Int))) (bids : Bool) (an an' : Bool) (aA aA' : Option Addr) (ak ac ak' ac' : Nat) (w : World) (h : CsAt w A n ls) (hq : QRaw w aA ak ac aA' ak' ac') (hx : longC ls = true ∨ (decide (6 < ak) || decide (6 < ak')) = true) : Calls Tryz.prog 9 #[.slice A n c, .bool bids, .agg #[.bool an, .slice aA ak ac, .bool an', .slice aA' ak' ac']] w fun e w' => e = .returned (.bool true) ∧ Below w.heap.size w w' := by
  have HAW := Lib.hid (fun W => awake24_any W)
  have HL := Lib.hid (fun W (hW : Below w.heap.size w W) => long24_any A n c ls W (h.below hW))
  have HLQ := Lib.hid (fun W => long_q an an' aA aA' ak ac ak' ac' W)
  by_cases hlg : longC ls = true
  · rw [hlg] at HL
    clear h hx hlg hq HLQ
    go_enter Tryz.func9, Tryz.ntmps9
    go_wp2_with fail
    have hbx := Blk.new w 42 #[.bool an, .slice aA ak ac, .bool an', .slice aA' ak' ac']
    have hb0 : Below w.heap.size w (w.alloc (.cells #[.bool an, .slice aA ak ac, .bool an', .slice aA' ak' ac'] 42)) := (Below.refl _ _).alloc (Nat.le_refl _) _
    generalize w.alloc (.cells #[.bool an, .slice aA ak ac, .bool an', .slice aA' ak' ac'] 42) = W0 at *
    refine (HL.out W0 hb0).mono ?_
    rintro e w1 ⟨rfl, hb1⟩
    have hbx1 := hbx.below hb1 hbx.lt
    obtain ⟨f0, f1, f2, f3, -, -, -, -⟩ := hbx1.four
    have HB1 := Lib.hid (hb0.trans (hb1.mono hb0.size))
    have HBX := Lib.hid hbx1
    clear hbx hb0 hb1 HL hbx1
    go_wp2_with fail
    refine (HAW.out _).mono ?_
    rintro e wz ⟨rfl, hbz⟩
    have HBZ := Lib.hid (HB1.out.trans (hbz.mono HB1.out.size))
    clear hbz
    go_wp2
    go_ret
    exact ⟨rfl, HBZ.out⟩
  · rw [Bool.not_eq_true] at hlg
    have hq2 : (decide (6 < ak) || decide (6 < ak')) = true := by
      rcases hx with hx | hx
      · rw [hx] at hlg; simp at hlg
      · exact hx
    rw [hlg] at HL
    rw [hq2] at HLQ
    clear h hx hlg hq hq2
    go_enter Tryz.func9, Tryz.ntmps9
    go_wp2_with fail
    have hbx := Blk.new w 42 #[.bool an, .slice aA ak ac, .bool an', .slice aA' ak' ac']
    have hb0 : Below w.heap.size w (w.alloc (.cells #[.bool an, .slice aA ak ac, .bool an', .slice aA' ak' ac'] 42)) := (Below.refl _ _).alloc (Nat.le_refl _) _
    generalize w.alloc (.cells #[.bool an, .slice aA ak ac, .bool an', .slice aA' ak' ac'] 42) = W0 at *
    refine (HL.out W0 hb0).mono ?_
    rintro e w1 ⟨rfl, hb1⟩
    have hbx1 := hbx.below hb1 hbx.lt
    obtain ⟨f0, f1, f2, f3, -, -, -, -⟩ := hbx1.four
    have HB1 := Lib.hid (hb0.trans (hb1.mono hb0.size))
    have HBX := Lib.hid hbx1
    clear hbx hb0 hb1 HL hbx1
    go_wp2_with fail
    refine (HLQ.out w1).mono ?_
    rintro e w2 ⟨rfl, hb2⟩
    have kx := (Kp.refl w1).alloc (.cells #[.bool an, .slice aA ak ac, .bool an', .slice aA' ak' ac'] 42)
    have hb2' : Below w1.heap.size w1 w2 := Below.trans kx (hb2.mono (by simp))
    have HB2 := Lib.hid (HB1.out.trans (hb2'.mono HB1.out.size))
    have HBX2 := Lib.hid (HBX.out.below hb2' HBX.out.lt)
    clear hb2 hb2' kx HB1 HBX HLQ f0 f1 f2 f3
    go_wp2_with fail
    refine (HAW.out _).mono ?_
    rintro e wz ⟨rfl, hbz⟩
    have HBZ := Lib.hid (HB2.out.trans (hbz.mono HB2.out.size))
    clear hbz
    go_wp2
    go_ret
    exact ⟨rfl, HBZ.out⟩

end Go.Proofs.YtnjpojpfiijlfaaGreat
