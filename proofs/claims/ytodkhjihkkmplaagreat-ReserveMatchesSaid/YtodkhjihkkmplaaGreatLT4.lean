/-
The reference of layer 26: the check of a unit. The reference of layer 26: the check of a unit. The reference of layer 26: the check of a unit. The reference of layer 26: the check of a unit. No statement of the seat is proved here; no conditions beyond those of each theorem.
-/
import Derived.Test.YtodkhjihkkmplaaGreatLT1
import Derived.Test.YtodkhjihkkmplaaGreatLPO
namespace Go.Proofs.YtodkhjihkkmplaaGreat
set_option linter.unusedVariables false
set_option linter.unusedSimpArgs false
open Go.RowKit
open Wd


set_option maxRecDepth 100000 in
set_option maxHeartbeats 16000000 in
theorem rucheck_neg (bus mn up dn start idle spin on : Int) (A : Option Addr) (n c : Nat) (l : List (Int × Int)) (w : World) (h : StAt w A n l) (g1 : ¬ bus < 0) (g2 : ¬ 6 ≤ bus) (h3 : chk true l = 0) (k1 : mn < 0) :
  Calls Tryz.prog 93 #[.agg #[.int .i64 bus, .int .i64 mn, .slice A n c, .int .i64 up, .int .i64 dn, .int .i64 start, .int .i64 idle, .int .i64 spin, .int .i64 on], .int .i64 6] w fun e w' => e = .returned (.int .i64 1) ∧ Below w.heap.size w w' := by
     have T := fun W hW => rcheck_up A n c l W hW
     rw [h3] at T
     have HT := Lib.hid T
     clear h3 T
     have hd : decide (mn < 0) = true := by simpa using k1
     go_enter Tryz.func93, Tryz.ntmps93
     go_wp2_with fail
     obtain ⟨hB0, hBW, hsz⟩ := pre1 w 48 #[.int .i64 bus, .int .i64 mn, .slice A n c, .int .i64 up, .int .i64 dn, .int .i64 start, .int .i64 idle, .int .i64 spin, .int .i64 on]
     generalize w.alloc (.cells #[.int .i64 bus, .int .i64 mn, .slice A n c, .int .i64 up, .int .i64 dn, .int .i64 start, .int .i64 idle, .int .i64 spin, .int .i64 on] 48) = W at *
     have HSZ := Lib.hid hsz
     clear hsz

     refine (HT.out W (h.below hBW)).mono ?_
     rintro e w1 ⟨rfl, hb1⟩
     have hB0 := hB0.below hb1 hB0.lt

     have hb1 : Below w.heap.size w w1 := hBW.trans (hb1.mono hBW.size)
     obtain ⟨c0, c1, c2, c3, c4, c5, c6, c7, c8⟩ := hB0.nine
     clear hBW HSZ
     have s5 := Kp.refl w1
     go_wp2_with fail
     simp only [List.append_eq, List.cons_append, List.nil_append]
     go_quiet (fail)
     go_wp2
     go_ret
     exact ⟨rfl, below_drewN hb1 _⟩

set_option maxRecDepth 100000 in
set_option maxHeartbeats 16000000 in
theorem rucheck_more (bus mn up dn start idle spin on qs : Int) (A : Option Addr) (n c : Nat) (l : List (Int × Int)) (w : World) (h : StAt w A n l) (g1 : ¬ bus < 0) (g2 : ¬ 6 ≤ bus) (h3 : chk true l = 0) (hq : qsum l = qs) (k1 : ¬ mn < 0) (k2 : qs < mn) :
  Calls Tryz.prog 93 #[.agg #[.int .i64 bus, .int .i64 mn, .slice A n c, .int .i64 up, .int .i64 dn, .int .i64 start, .int .i64 idle, .int .i64 spin, .int .i64 on], .int .i64 6] w fun e w' => e = .returned (.int .i64 1) ∧ Below w.heap.size w w' := by
     have T := fun W hW => rcheck_up A n c l W hW
     have TM := fun W hW => rumax_raw bus mn up dn start idle spin on A n c l W hW
     have eu : umax ⟨bus, mn, l, up, dn, start, idle, spin, on⟩ = qs := by unfold umax; rw [if_pos h3]; exact hq
     rw [eu] at TM
     rw [h3] at T
     have HT := Lib.hid T
     have HTM := Lib.hid TM
     clear h3 T TM eu hq
     have hd : decide (mn < 0) = false := by simpa using k1
     have hd2 : decide (qs < mn) = true := by simpa using k2
     go_enter Tryz.func93, Tryz.ntmps93
     go_wp2_with fail
     obtain ⟨hB0, hBW, hsz⟩ := pre1 w 48 #[.int .i64 bus, .int .i64 mn, .slice A n c, .int .i64 up, .int .i64 dn, .int .i64 start, .int .i64 idle, .int .i64 spin, .int .i64 on]
     generalize w.alloc (.cells #[.int .i64 bus, .int .i64 mn, .slice A n c, .int .i64 up, .int .i64 dn, .int .i64 start, .int .i64 idle, .int .i64 spin, .int .i64 on] 48) = W at *
     have HSZ := Lib.hid hsz
     clear hsz

     refine (HT.out W (h.below hBW)).mono ?_
     rintro e w1 ⟨rfl, hb1⟩
     have hB0 := hB0.below hb1 hB0.lt

     have hb1 : Below w.heap.size w w1 := hBW.trans (hb1.mono hBW.size)
     obtain ⟨c0, c1, c2, c3, c4, c5, c6, c7, c8⟩ := hB0.nine
     clear hBW HSZ
     have s5 := Kp.refl w1
     go_wp2_with fail
     have y0 := fun s : KW w1 => KW.cell hB0 0 s
     have y1 := fun s : KW w1 => KW.cell hB0 1 s
     have y2 := fun s : KW w1 => KW.cell hB0 2 s
     have y3 := fun s : KW w1 => KW.cell hB0 3 s
     have y4 := fun s : KW w1 => KW.cell hB0 4 s
     have y5 := fun s : KW w1 => KW.cell hB0 5 s
     have y6 := fun s : KW w1 => KW.cell hB0 6 s
     have y7 := fun s : KW w1 => KW.cell hB0 7 s
     have y8 := fun s : KW w1 => KW.cell hB0 8 s
     simp only [List.append_eq, List.cons_append, List.nil_append]
     refine wp_region_kw (W := w1) (by kernel_rfl) (by kernel_rfl) ?_
     repeat (go_big_quiet_step ((go_at_call 64; exact kw_call (HTM.out _ ((h.below hb1).below (KW.h _))))))
     refine wpQuiet_nil ?_
     intro v1 hw1
     have hv1 : Kp w1 v1 := by obtain ⟨s, rfl⟩ := hw1; exact s.h
     clear hw1
     have hb2 : Below w.heap.size w v1 := hb1.trans (Below.mono hv1 hb1.size)
     clear y0 y1 y2 y3 y4 y5 y6 y7 y8 HTM HT
     go_wp2
     go_ret
     exact ⟨rfl, hb2⟩

set_option maxRecDepth 100000 in
set_option maxHeartbeats 16000000 in
theorem rucheck_c13 (bus mn up dn start idle spin on qs : Int) (A : Option Addr) (n c : Nat) (l : List (Int × Int)) (w : World) (h : StAt w A n l) (g1 : ¬ bus < 0) (g2 : ¬ 6 ≤ bus) (h3 : chk true l = 0) (hq : qsum l = qs) (k1 : ¬ mn < 0) (k2 : ¬ qs < mn) (r0 : ¬ up < 1) (r1 : ¬ 6 < up) (r2 : ¬ dn < 1) (r3 : ¬ 6 < dn) (r4 : ¬ start < 0) (r5 : ¬ 1000000000 < start) (r6 : ¬ idle < 0) (r7 : ¬ 1000000000 < idle) (r8 : ¬ spin < 0) (r9 : ¬ 1000000 < spin) (r10 : ¬ on = 0) (r11 : ¬ on < -6) (r12 : ¬ 6 < on) :
  Calls Tryz.prog 93 #[.agg #[.int .i64 bus, .int .i64 mn, .slice A n c, .int .i64 up, .int .i64 dn, .int .i64 start, .int .i64 idle, .int .i64 spin, .int .i64 on], .int .i64 6] w fun e w' => e = .returned (.int .i64 0) ∧ Below w.heap.size w w' := by
     have T := fun W hW => rcheck_up A n c l W hW
     have TM := fun W hW => rumax_raw bus mn up dn start idle spin on A n c l W hW
     have eu : umax ⟨bus, mn, l, up, dn, start, idle, spin, on⟩ = qs := by unfold umax; rw [if_pos h3]; exact hq
     rw [eu] at TM
     rw [h3] at T
     have HT := Lib.hid T
     have HTM := Lib.hid TM
     clear h3 T TM eu hq
     have hd : decide (mn < 0) = false := by simpa using k1
     have hd2 : decide (qs < mn) = false := by simpa using k2
     have q0 : decide (up < 1) = false := by simpa using r0
     have q1 : decide (6 < up) = false := by simpa using r1
     have q2 : decide (dn < 1) = false := by simpa using r2
     have q3 : decide (6 < dn) = false := by simpa using r3
     have q4 : decide (start < 0) = false := by simpa using r4
     have q5 : decide (1000000000 < start) = false := by simpa using r5
     have q6 : decide (idle < 0) = false := by simpa using r6
     have q7 : decide (1000000000 < idle) = false := by simpa using r7
     have q8 : decide (spin < 0) = false := by simpa using r8
     have q9 : decide (1000000 < spin) = false := by simpa using r9
     have q10 : (on == 0) = false := by simpa using r10
     have q11 : decide (on < -6) = false := by simpa using r11
     have q12 : decide (6 < on) = false := by simpa using r12
     go_enter Tryz.func93, Tryz.ntmps93
     go_wp2_with fail
     obtain ⟨hB0, hBW, hsz⟩ := pre1 w 48 #[.int .i64 bus, .int .i64 mn, .slice A n c, .int .i64 up, .int .i64 dn, .int .i64 start, .int .i64 idle, .int .i64 spin, .int .i64 on]
     generalize w.alloc (.cells #[.int .i64 bus, .int .i64 mn, .slice A n c, .int .i64 up, .int .i64 dn, .int .i64 start, .int .i64 idle, .int .i64 spin, .int .i64 on] 48) = W at *
     have HSZ := Lib.hid hsz
     clear hsz

     refine (HT.out W (h.below hBW)).mono ?_
     rintro e w1 ⟨rfl, hb1⟩
     have hB0 := hB0.below hb1 hB0.lt

     have hb1 : Below w.heap.size w w1 := hBW.trans (hb1.mono hBW.size)
     obtain ⟨c0, c1, c2, c3, c4, c5, c6, c7, c8⟩ := hB0.nine
     clear hBW HSZ
     have s5 := Kp.refl w1
     go_wp2_with fail
     have y0 := fun s : KW w1 => KW.cell hB0 0 s
     have y1 := fun s : KW w1 => KW.cell hB0 1 s
     have y2 := fun s : KW w1 => KW.cell hB0 2 s
     have y3 := fun s : KW w1 => KW.cell hB0 3 s
     have y4 := fun s : KW w1 => KW.cell hB0 4 s
     have y5 := fun s : KW w1 => KW.cell hB0 5 s
     have y6 := fun s : KW w1 => KW.cell hB0 6 s
     have y7 := fun s : KW w1 => KW.cell hB0 7 s
     have y8 := fun s : KW w1 => KW.cell hB0 8 s
     simp only [List.append_eq, List.cons_append, List.nil_append]
     refine wp_region_kw (W := w1) (by kernel_rfl) (by kernel_rfl) ?_
     repeat (go_big_quiet_step ((go_at_call 64; exact kw_call (HTM.out _ ((h.below hb1).below (KW.h _))))))
     refine wpQuiet_nil ?_
     intro v1 hw1
     have hv1 : Kp w1 v1 := by obtain ⟨s, rfl⟩ := hw1; exact s.h
     clear hw1
     have hb2 : Below w.heap.size w v1 := hb1.trans (Below.mono hv1 hb1.size)
     clear y0 y1 y2 y3 y4 y5 y6 y7 y8 HTM HT
     go_wp2
     go_ret
     exact ⟨rfl, hb2⟩

end Go.Proofs.YtodkhjihkkmplaaGreat

namespace Go.Proofs.YtodkhjihkkmplaaGreat
set_option linter.unusedVariables false
set_option linter.unusedSimpArgs false
open Go.RowKit
open Wd



set_option maxRecDepth 100000 in
set_option maxHeartbeats 16000000 in
theorem rucheck_c0 (bus mn up dn start idle spin on qs : Int) (A : Option Addr) (n c : Nat) (l : List (Int × Int)) (w : World) (h : StAt w A n l) (g1 : ¬ bus < 0) (g2 : ¬ 6 ≤ bus) (h3 : chk true l = 0) (hq : qsum l = qs) (k1 : ¬ mn < 0) (k2 : ¬ qs < mn)  (r0 : up < 1) :
  Calls Tryz.prog 93 #[.agg #[.int .i64 bus, .int .i64 mn, .slice A n c, .int .i64 up, .int .i64 dn, .int .i64 start, .int .i64 idle, .int .i64 spin, .int .i64 on], .int .i64 6] w fun e w' => e = .returned (.int .i64 1) ∧ Below w.heap.size w w' := by
     have T := fun W hW => rcheck_up A n c l W hW
     have TM := fun W hW => rumax_raw bus mn up dn start idle spin on A n c l W hW
     have eu : umax ⟨bus, mn, l, up, dn, start, idle, spin, on⟩ = qs := by unfold umax; rw [if_pos h3]; exact hq
     rw [eu] at TM
     rw [h3] at T
     have HT := Lib.hid T
     have HTM := Lib.hid TM
     clear h3 T TM eu hq
     have hd : decide (mn < 0) = false := by simpa using k1
     have hd2 : decide (qs < mn) = false := by simpa using k2
     have q0 : decide (up < 1) = true := by simpa using r0
     go_enter Tryz.func93, Tryz.ntmps93
     go_wp2_with fail
     obtain ⟨hB0, hBW, hsz⟩ := pre1 w 48 #[.int .i64 bus, .int .i64 mn, .slice A n c, .int .i64 up, .int .i64 dn, .int .i64 start, .int .i64 idle, .int .i64 spin, .int .i64 on]
     generalize w.alloc (.cells #[.int .i64 bus, .int .i64 mn, .slice A n c, .int .i64 up, .int .i64 dn, .int .i64 start, .int .i64 idle, .int .i64 spin, .int .i64 on] 48) = W at *
     have HSZ := Lib.hid hsz
     clear hsz

     refine (HT.out W (h.below hBW)).mono ?_
     rintro e w1 ⟨rfl, hb1⟩
     have hB0 := hB0.below hb1 hB0.lt

     have hb1 : Below w.heap.size w w1 := hBW.trans (hb1.mono hBW.size)
     obtain ⟨c0, c1, c2, c3, c4, c5, c6, c7, c8⟩ := hB0.nine
     clear hBW HSZ
     have s5 := Kp.refl w1
     go_wp2_with fail
     have y0 := fun s : KW w1 => KW.cell hB0 0 s
     have y1 := fun s : KW w1 => KW.cell hB0 1 s
     have y2 := fun s : KW w1 => KW.cell hB0 2 s
     have y3 := fun s : KW w1 => KW.cell hB0 3 s
     have y4 := fun s : KW w1 => KW.cell hB0 4 s
     have y5 := fun s : KW w1 => KW.cell hB0 5 s
     have y6 := fun s : KW w1 => KW.cell hB0 6 s
     have y7 := fun s : KW w1 => KW.cell hB0 7 s
     have y8 := fun s : KW w1 => KW.cell hB0 8 s
     simp only [List.append_eq, List.cons_append, List.nil_append]
     refine wp_region_kw (W := w1) (by kernel_rfl) (by kernel_rfl) ?_
     repeat (go_big_quiet_step ((go_at_call 64; exact kw_call (HTM.out _ ((h.below hb1).below (KW.h _))))))
     refine wpQuiet_nil ?_
     intro v1 hw1
     have hv1 : Kp w1 v1 := by obtain ⟨s, rfl⟩ := hw1; exact s.h
     clear hw1
     have hb2 : Below w.heap.size w v1 := hb1.trans (Below.mono hv1 hb1.size)
     clear y0 y1 y2 y3 y4 y5 y6 y7 y8 HTM HT
     go_wp2
     go_ret
     exact ⟨rfl, hb2⟩

set_option maxRecDepth 100000 in
set_option maxHeartbeats 16000000 in
theorem rucheck_c1 (bus mn up dn start idle spin on qs : Int) (A : Option Addr) (n c : Nat) (l : List (Int × Int)) (w : World) (h : StAt w A n l) (g1 : ¬ bus < 0) (g2 : ¬ 6 ≤ bus) (h3 : chk true l = 0) (hq : qsum l = qs) (k1 : ¬ mn < 0) (k2 : ¬ qs < mn) (r0 : ¬ up < 1) (r1 : 6 < up) :
  Calls Tryz.prog 93 #[.agg #[.int .i64 bus, .int .i64 mn, .slice A n c, .int .i64 up, .int .i64 dn, .int .i64 start, .int .i64 idle, .int .i64 spin, .int .i64 on], .int .i64 6] w fun e w' => e = .returned (.int .i64 1) ∧ Below w.heap.size w w' := by
     have T := fun W hW => rcheck_up A n c l W hW
     have TM := fun W hW => rumax_raw bus mn up dn start idle spin on A n c l W hW
     have eu : umax ⟨bus, mn, l, up, dn, start, idle, spin, on⟩ = qs := by unfold umax; rw [if_pos h3]; exact hq
     rw [eu] at TM
     rw [h3] at T
     have HT := Lib.hid T
     have HTM := Lib.hid TM
     clear h3 T TM eu hq
     have hd : decide (mn < 0) = false := by simpa using k1
     have hd2 : decide (qs < mn) = false := by simpa using k2
     have q0 : decide (up < 1) = false := by simpa using r0
     have q1 : decide (6 < up) = true := by simpa using r1
     go_enter Tryz.func93, Tryz.ntmps93
     go_wp2_with fail
     obtain ⟨hB0, hBW, hsz⟩ := pre1 w 48 #[.int .i64 bus, .int .i64 mn, .slice A n c, .int .i64 up, .int .i64 dn, .int .i64 start, .int .i64 idle, .int .i64 spin, .int .i64 on]
     generalize w.alloc (.cells #[.int .i64 bus, .int .i64 mn, .slice A n c, .int .i64 up, .int .i64 dn, .int .i64 start, .int .i64 idle, .int .i64 spin, .int .i64 on] 48) = W at *
     have HSZ := Lib.hid hsz
     clear hsz

     refine (HT.out W (h.below hBW)).mono ?_
     rintro e w1 ⟨rfl, hb1⟩
     have hB0 := hB0.below hb1 hB0.lt

     have hb1 : Below w.heap.size w w1 := hBW.trans (hb1.mono hBW.size)
     obtain ⟨c0, c1, c2, c3, c4, c5, c6, c7, c8⟩ := hB0.nine
     clear hBW HSZ
     have s5 := Kp.refl w1
     go_wp2_with fail
     have y0 := fun s : KW w1 => KW.cell hB0 0 s
     have y1 := fun s : KW w1 => KW.cell hB0 1 s
     have y2 := fun s : KW w1 => KW.cell hB0 2 s
     have y3 := fun s : KW w1 => KW.cell hB0 3 s
     have y4 := fun s : KW w1 => KW.cell hB0 4 s
     have y5 := fun s : KW w1 => KW.cell hB0 5 s
     have y6 := fun s : KW w1 => KW.cell hB0 6 s
     have y7 := fun s : KW w1 => KW.cell hB0 7 s
     have y8 := fun s : KW w1 => KW.cell hB0 8 s
     simp only [List.append_eq, List.cons_append, List.nil_append]
     refine wp_region_kw (W := w1) (by kernel_rfl) (by kernel_rfl) ?_
     repeat (go_big_quiet_step ((go_at_call 64; exact kw_call (HTM.out _ ((h.below hb1).below (KW.h _))))))
     refine wpQuiet_nil ?_
     intro v1 hw1
     have hv1 : Kp w1 v1 := by obtain ⟨s, rfl⟩ := hw1; exact s.h
     clear hw1
     have hb2 : Below w.heap.size w v1 := hb1.trans (Below.mono hv1 hb1.size)
     clear y0 y1 y2 y3 y4 y5 y6 y7 y8 HTM HT
     go_wp2
     go_ret
     exact ⟨rfl, hb2⟩

set_option maxRecDepth 100000 in
set_option maxHeartbeats 16000000 in
theorem rucheck_c2 (bus mn up dn start idle spin on qs : Int) (A : Option Addr) (n c : Nat) (l : List (Int × Int)) (w : World) (h : StAt w A n l) (g1 : ¬ bus < 0) (g2 : ¬ 6 ≤ bus) (h3 : chk true l = 0) (hq : qsum l = qs) (k1 : ¬ mn < 0) (k2 : ¬ qs < mn) (r0 : ¬ up < 1) (r1 : ¬ 6 < up) (r2 : dn < 1) :
  Calls Tryz.prog 93 #[.agg #[.int .i64 bus, .int .i64 mn, .slice A n c, .int .i64 up, .int .i64 dn, .int .i64 start, .int .i64 idle, .int .i64 spin, .int .i64 on], .int .i64 6] w fun e w' => e = .returned (.int .i64 1) ∧ Below w.heap.size w w' := by
     have T := fun W hW => rcheck_up A n c l W hW
     have TM := fun W hW => rumax_raw bus mn up dn start idle spin on A n c l W hW
     have eu : umax ⟨bus, mn, l, up, dn, start, idle, spin, on⟩ = qs := by unfold umax; rw [if_pos h3]; exact hq
     rw [eu] at TM
     rw [h3] at T
     have HT := Lib.hid T
     have HTM := Lib.hid TM
     clear h3 T TM eu hq
     have hd : decide (mn < 0) = false := by simpa using k1
     have hd2 : decide (qs < mn) = false := by simpa using k2
     have q0 : decide (up < 1) = false := by simpa using r0
     have q1 : decide (6 < up) = false := by simpa using r1
     have q2 : decide (dn < 1) = true := by simpa using r2
     go_enter Tryz.func93, Tryz.ntmps93
     go_wp2_with fail
     obtain ⟨hB0, hBW, hsz⟩ := pre1 w 48 #[.int .i64 bus, .int .i64 mn, .slice A n c, .int .i64 up, .int .i64 dn, .int .i64 start, .int .i64 idle, .int .i64 spin, .int .i64 on]
     generalize w.alloc (.cells #[.int .i64 bus, .int .i64 mn, .slice A n c, .int .i64 up, .int .i64 dn, .int .i64 start, .int .i64 idle, .int .i64 spin, .int .i64 on] 48) = W at *
     have HSZ := Lib.hid hsz
     clear hsz

     refine (HT.out W (h.below hBW)).mono ?_
     rintro e w1 ⟨rfl, hb1⟩
     have hB0 := hB0.below hb1 hB0.lt

     have hb1 : Below w.heap.size w w1 := hBW.trans (hb1.mono hBW.size)
     obtain ⟨c0, c1, c2, c3, c4, c5, c6, c7, c8⟩ := hB0.nine
     clear hBW HSZ
     have s5 := Kp.refl w1
     go_wp2_with fail
     have y0 := fun s : KW w1 => KW.cell hB0 0 s
     have y1 := fun s : KW w1 => KW.cell hB0 1 s
     have y2 := fun s : KW w1 => KW.cell hB0 2 s
     have y3 := fun s : KW w1 => KW.cell hB0 3 s
     have y4 := fun s : KW w1 => KW.cell hB0 4 s
     have y5 := fun s : KW w1 => KW.cell hB0 5 s
     have y6 := fun s : KW w1 => KW.cell hB0 6 s
     have y7 := fun s : KW w1 => KW.cell hB0 7 s
     have y8 := fun s : KW w1 => KW.cell hB0 8 s
     simp only [List.append_eq, List.cons_append, List.nil_append]
     refine wp_region_kw (W := w1) (by kernel_rfl) (by kernel_rfl) ?_
     repeat (go_big_quiet_step ((go_at_call 64; exact kw_call (HTM.out _ ((h.below hb1).below (KW.h _))))))
     refine wpQuiet_nil ?_
     intro v1 hw1
     have hv1 : Kp w1 v1 := by obtain ⟨s, rfl⟩ := hw1; exact s.h
     clear hw1
     have hb2 : Below w.heap.size w v1 := hb1.trans (Below.mono hv1 hb1.size)
     clear y0 y1 y2 y3 y4 y5 y6 y7 y8 HTM HT
     go_wp2
     go_ret
     exact ⟨rfl, hb2⟩

set_option maxRecDepth 100000 in
set_option maxHeartbeats 16000000 in
theorem rucheck_c3 (bus mn up dn start idle spin on qs : Int) (A : Option Addr) (n c : Nat) (l : List (Int × Int)) (w : World) (h : StAt w A n l) (g1 : ¬ bus < 0) (g2 : ¬ 6 ≤ bus) (h3 : chk true l = 0) (hq : qsum l = qs) (k1 : ¬ mn < 0) (k2 : ¬ qs < mn) (r0 : ¬ up < 1) (r1 : ¬ 6 < up) (r2 : ¬ dn < 1) (r3 : 6 < dn) :
  Calls Tryz.prog 93 #[.agg #[.int .i64 bus, .int .i64 mn, .slice A n c, .int .i64 up, .int .i64 dn, .int .i64 start, .int .i64 idle, .int .i64 spin, .int .i64 on], .int .i64 6] w fun e w' => e = .returned (.int .i64 1) ∧ Below w.heap.size w w' := by
     have T := fun W hW => rcheck_up A n c l W hW
     have TM := fun W hW => rumax_raw bus mn up dn start idle spin on A n c l W hW
     have eu : umax ⟨bus, mn, l, up, dn, start, idle, spin, on⟩ = qs := by unfold umax; rw [if_pos h3]; exact hq
     rw [eu] at TM
     rw [h3] at T
     have HT := Lib.hid T
     have HTM := Lib.hid TM
     clear h3 T TM eu hq
     have hd : decide (mn < 0) = false := by simpa using k1
     have hd2 : decide (qs < mn) = false := by simpa using k2
     have q0 : decide (up < 1) = false := by simpa using r0
     have q1 : decide (6 < up) = false := by simpa using r1
     have q2 : decide (dn < 1) = false := by simpa using r2
     have q3 : decide (6 < dn) = true := by simpa using r3
     go_enter Tryz.func93, Tryz.ntmps93
     go_wp2_with fail
     obtain ⟨hB0, hBW, hsz⟩ := pre1 w 48 #[.int .i64 bus, .int .i64 mn, .slice A n c, .int .i64 up, .int .i64 dn, .int .i64 start, .int .i64 idle, .int .i64 spin, .int .i64 on]
     generalize w.alloc (.cells #[.int .i64 bus, .int .i64 mn, .slice A n c, .int .i64 up, .int .i64 dn, .int .i64 start, .int .i64 idle, .int .i64 spin, .int .i64 on] 48) = W at *
     have HSZ := Lib.hid hsz
     clear hsz

     refine (HT.out W (h.below hBW)).mono ?_
     rintro e w1 ⟨rfl, hb1⟩
     have hB0 := hB0.below hb1 hB0.lt

     have hb1 : Below w.heap.size w w1 := hBW.trans (hb1.mono hBW.size)
     obtain ⟨c0, c1, c2, c3, c4, c5, c6, c7, c8⟩ := hB0.nine
     clear hBW HSZ
     have s5 := Kp.refl w1
     go_wp2_with fail
     have y0 := fun s : KW w1 => KW.cell hB0 0 s
     have y1 := fun s : KW w1 => KW.cell hB0 1 s
     have y2 := fun s : KW w1 => KW.cell hB0 2 s
     have y3 := fun s : KW w1 => KW.cell hB0 3 s
     have y4 := fun s : KW w1 => KW.cell hB0 4 s
     have y5 := fun s : KW w1 => KW.cell hB0 5 s
     have y6 := fun s : KW w1 => KW.cell hB0 6 s
     have y7 := fun s : KW w1 => KW.cell hB0 7 s
     have y8 := fun s : KW w1 => KW.cell hB0 8 s
     simp only [List.append_eq, List.cons_append, List.nil_append]
     refine wp_region_kw (W := w1) (by kernel_rfl) (by kernel_rfl) ?_
     repeat (go_big_quiet_step ((go_at_call 64; exact kw_call (HTM.out _ ((h.below hb1).below (KW.h _))))))
     refine wpQuiet_nil ?_
     intro v1 hw1
     have hv1 : Kp w1 v1 := by obtain ⟨s, rfl⟩ := hw1; exact s.h
     clear hw1
     have hb2 : Below w.heap.size w v1 := hb1.trans (Below.mono hv1 hb1.size)
     clear y0 y1 y2 y3 y4 y5 y6 y7 y8 HTM HT
     go_wp2
     go_ret
     exact ⟨rfl, hb2⟩

end Go.Proofs.YtodkhjihkkmplaaGreat

namespace Go.Proofs.YtodkhjihkkmplaaGreat
set_option linter.unusedVariables false
set_option linter.unusedSimpArgs false
open Go.RowKit
open Wd



set_option maxRecDepth 100000 in
set_option maxHeartbeats 16000000 in
theorem rucheck_c4 (bus mn up dn start idle spin on qs : Int) (A : Option Addr) (n c : Nat) (l : List (Int × Int)) (w : World) (h : StAt w A n l) (g1 : ¬ bus < 0) (g2 : ¬ 6 ≤ bus) (h3 : chk true l = 0) (hq : qsum l = qs) (k1 : ¬ mn < 0) (k2 : ¬ qs < mn) (r0 : ¬ up < 1) (r1 : ¬ 6 < up) (r2 : ¬ dn < 1) (r3 : ¬ 6 < dn) (r4 : start < 0) :
  Calls Tryz.prog 93 #[.agg #[.int .i64 bus, .int .i64 mn, .slice A n c, .int .i64 up, .int .i64 dn, .int .i64 start, .int .i64 idle, .int .i64 spin, .int .i64 on], .int .i64 6] w fun e w' => e = .returned (.int .i64 1) ∧ Below w.heap.size w w' := by
     have T := fun W hW => rcheck_up A n c l W hW
     have TM := fun W hW => rumax_raw bus mn up dn start idle spin on A n c l W hW
     have eu : umax ⟨bus, mn, l, up, dn, start, idle, spin, on⟩ = qs := by unfold umax; rw [if_pos h3]; exact hq
     rw [eu] at TM
     rw [h3] at T
     have HT := Lib.hid T
     have HTM := Lib.hid TM
     clear h3 T TM eu hq
     have hd : decide (mn < 0) = false := by simpa using k1
     have hd2 : decide (qs < mn) = false := by simpa using k2
     have q0 : decide (up < 1) = false := by simpa using r0
     have q1 : decide (6 < up) = false := by simpa using r1
     have q2 : decide (dn < 1) = false := by simpa using r2
     have q3 : decide (6 < dn) = false := by simpa using r3
     have q4 : decide (start < 0) = true := by simpa using r4
     go_enter Tryz.func93, Tryz.ntmps93
     go_wp2_with fail
     obtain ⟨hB0, hBW, hsz⟩ := pre1 w 48 #[.int .i64 bus, .int .i64 mn, .slice A n c, .int .i64 up, .int .i64 dn, .int .i64 start, .int .i64 idle, .int .i64 spin, .int .i64 on]
     generalize w.alloc (.cells #[.int .i64 bus, .int .i64 mn, .slice A n c, .int .i64 up, .int .i64 dn, .int .i64 start, .int .i64 idle, .int .i64 spin, .int .i64 on] 48) = W at *
     have HSZ := Lib.hid hsz
     clear hsz

     refine (HT.out W (h.below hBW)).mono ?_
     rintro e w1 ⟨rfl, hb1⟩
     have hB0 := hB0.below hb1 hB0.lt

     have hb1 : Below w.heap.size w w1 := hBW.trans (hb1.mono hBW.size)
     obtain ⟨c0, c1, c2, c3, c4, c5, c6, c7, c8⟩ := hB0.nine
     clear hBW HSZ
     have s5 := Kp.refl w1
     go_wp2_with fail
     have y0 := fun s : KW w1 => KW.cell hB0 0 s
     have y1 := fun s : KW w1 => KW.cell hB0 1 s
     have y2 := fun s : KW w1 => KW.cell hB0 2 s
     have y3 := fun s : KW w1 => KW.cell hB0 3 s
     have y4 := fun s : KW w1 => KW.cell hB0 4 s
     have y5 := fun s : KW w1 => KW.cell hB0 5 s
     have y6 := fun s : KW w1 => KW.cell hB0 6 s
     have y7 := fun s : KW w1 => KW.cell hB0 7 s
     have y8 := fun s : KW w1 => KW.cell hB0 8 s
     simp only [List.append_eq, List.cons_append, List.nil_append]
     refine wp_region_kw (W := w1) (by kernel_rfl) (by kernel_rfl) ?_
     repeat (go_big_quiet_step ((go_at_call 64; exact kw_call (HTM.out _ ((h.below hb1).below (KW.h _))))))
     refine wpQuiet_nil ?_
     intro v1 hw1
     have hv1 : Kp w1 v1 := by obtain ⟨s, rfl⟩ := hw1; exact s.h
     clear hw1
     have hb2 : Below w.heap.size w v1 := hb1.trans (Below.mono hv1 hb1.size)
     clear y0 y1 y2 y3 y4 y5 y6 y7 y8 HTM HT
     go_wp2
     go_ret
     exact ⟨rfl, hb2⟩

set_option maxRecDepth 100000 in
set_option maxHeartbeats 16000000 in
theorem rucheck_c5 (bus mn up dn start idle spin on qs : Int) (A : Option Addr) (n c : Nat) (l : List (Int × Int)) (w : World) (h : StAt w A n l) (g1 : ¬ bus < 0) (g2 : ¬ 6 ≤ bus) (h3 : chk true l = 0) (hq : qsum l = qs) (k1 : ¬ mn < 0) (k2 : ¬ qs < mn) (r0 : ¬ up < 1) (r1 : ¬ 6 < up) (r2 : ¬ dn < 1) (r3 : ¬ 6 < dn) (r4 : ¬ start < 0) (r5 : 1000000000 < start) :
  Calls Tryz.prog 93 #[.agg #[.int .i64 bus, .int .i64 mn, .slice A n c, .int .i64 up, .int .i64 dn, .int .i64 start, .int .i64 idle, .int .i64 spin, .int .i64 on], .int .i64 6] w fun e w' => e = .returned (.int .i64 1) ∧ Below w.heap.size w w' := by
     have T := fun W hW => rcheck_up A n c l W hW
     have TM := fun W hW => rumax_raw bus mn up dn start idle spin on A n c l W hW
     have eu : umax ⟨bus, mn, l, up, dn, start, idle, spin, on⟩ = qs := by unfold umax; rw [if_pos h3]; exact hq
     rw [eu] at TM
     rw [h3] at T
     have HT := Lib.hid T
     have HTM := Lib.hid TM
     clear h3 T TM eu hq
     have hd : decide (mn < 0) = false := by simpa using k1
     have hd2 : decide (qs < mn) = false := by simpa using k2
     have q0 : decide (up < 1) = false := by simpa using r0
     have q1 : decide (6 < up) = false := by simpa using r1
     have q2 : decide (dn < 1) = false := by simpa using r2
     have q3 : decide (6 < dn) = false := by simpa using r3
     have q4 : decide (start < 0) = false := by simpa using r4
     have q5 : decide (1000000000 < start) = true := by simpa using r5
     go_enter Tryz.func93, Tryz.ntmps93
     go_wp2_with fail
     obtain ⟨hB0, hBW, hsz⟩ := pre1 w 48 #[.int .i64 bus, .int .i64 mn, .slice A n c, .int .i64 up, .int .i64 dn, .int .i64 start, .int .i64 idle, .int .i64 spin, .int .i64 on]
     generalize w.alloc (.cells #[.int .i64 bus, .int .i64 mn, .slice A n c, .int .i64 up, .int .i64 dn, .int .i64 start, .int .i64 idle, .int .i64 spin, .int .i64 on] 48) = W at *
     have HSZ := Lib.hid hsz
     clear hsz

     refine (HT.out W (h.below hBW)).mono ?_
     rintro e w1 ⟨rfl, hb1⟩
     have hB0 := hB0.below hb1 hB0.lt

     have hb1 : Below w.heap.size w w1 := hBW.trans (hb1.mono hBW.size)
     obtain ⟨c0, c1, c2, c3, c4, c5, c6, c7, c8⟩ := hB0.nine
     clear hBW HSZ
     have s5 := Kp.refl w1
     go_wp2_with fail
     have y0 := fun s : KW w1 => KW.cell hB0 0 s
     have y1 := fun s : KW w1 => KW.cell hB0 1 s
     have y2 := fun s : KW w1 => KW.cell hB0 2 s
     have y3 := fun s : KW w1 => KW.cell hB0 3 s
     have y4 := fun s : KW w1 => KW.cell hB0 4 s
     have y5 := fun s : KW w1 => KW.cell hB0 5 s
     have y6 := fun s : KW w1 => KW.cell hB0 6 s
     have y7 := fun s : KW w1 => KW.cell hB0 7 s
     have y8 := fun s : KW w1 => KW.cell hB0 8 s
     simp only [List.append_eq, List.cons_append, List.nil_append]
     refine wp_region_kw (W := w1) (by kernel_rfl) (by kernel_rfl) ?_
     repeat (go_big_quiet_step ((go_at_call 64; exact kw_call (HTM.out _ ((h.below hb1).below (KW.h _))))))
     refine wpQuiet_nil ?_
     intro v1 hw1
     have hv1 : Kp w1 v1 := by obtain ⟨s, rfl⟩ := hw1; exact s.h
     clear hw1
     have hb2 : Below w.heap.size w v1 := hb1.trans (Below.mono hv1 hb1.size)
     clear y0 y1 y2 y3 y4 y5 y6 y7 y8 HTM HT
     go_wp2
     go_ret
     exact ⟨rfl, hb2⟩

set_option maxRecDepth 100000 in
set_option maxHeartbeats 16000000 in
theorem rucheck_c6 (bus mn up dn start idle spin on qs : Int) (A : Option Addr) (n c : Nat) (l : List (Int × Int)) (w : World) (h : StAt w A n l) (g1 : ¬ bus < 0) (g2 : ¬ 6 ≤ bus) (h3 : chk true l = 0) (hq : qsum l = qs) (k1 : ¬ mn < 0) (k2 : ¬ qs < mn) (r0 : ¬ up < 1) (r1 : ¬ 6 < up) (r2 : ¬ dn < 1) (r3 : ¬ 6 < dn) (r4 : ¬ start < 0) (r5 : ¬ 1000000000 < start) (r6 : idle < 0) :
  Calls Tryz.prog 93 #[.agg #[.int .i64 bus, .int .i64 mn, .slice A n c, .int .i64 up, .int .i64 dn, .int .i64 start, .int .i64 idle, .int .i64 spin, .int .i64 on], .int .i64 6] w fun e w' => e = .returned (.int .i64 1) ∧ Below w.heap.size w w' := by
     have T := fun W hW => rcheck_up A n c l W hW
     have TM := fun W hW => rumax_raw bus mn up dn start idle spin on A n c l W hW
     have eu : umax ⟨bus, mn, l, up, dn, start, idle, spin, on⟩ = qs := by unfold umax; rw [if_pos h3]; exact hq
     rw [eu] at TM
     rw [h3] at T
     have HT := Lib.hid T
     have HTM := Lib.hid TM
     clear h3 T TM eu hq
     have hd : decide (mn < 0) = false := by simpa using k1
     have hd2 : decide (qs < mn) = false := by simpa using k2
     have q0 : decide (up < 1) = false := by simpa using r0
     have q1 : decide (6 < up) = false := by simpa using r1
     have q2 : decide (dn < 1) = false := by simpa using r2
     have q3 : decide (6 < dn) = false := by simpa using r3
     have q4 : decide (start < 0) = false := by simpa using r4
     have q5 : decide (1000000000 < start) = false := by simpa using r5
     have q6 : decide (idle < 0) = true := by simpa using r6
     go_enter Tryz.func93, Tryz.ntmps93
     go_wp2_with fail
     obtain ⟨hB0, hBW, hsz⟩ := pre1 w 48 #[.int .i64 bus, .int .i64 mn, .slice A n c, .int .i64 up, .int .i64 dn, .int .i64 start, .int .i64 idle, .int .i64 spin, .int .i64 on]
     generalize w.alloc (.cells #[.int .i64 bus, .int .i64 mn, .slice A n c, .int .i64 up, .int .i64 dn, .int .i64 start, .int .i64 idle, .int .i64 spin, .int .i64 on] 48) = W at *
     have HSZ := Lib.hid hsz
     clear hsz

     refine (HT.out W (h.below hBW)).mono ?_
     rintro e w1 ⟨rfl, hb1⟩
     have hB0 := hB0.below hb1 hB0.lt

     have hb1 : Below w.heap.size w w1 := hBW.trans (hb1.mono hBW.size)
     obtain ⟨c0, c1, c2, c3, c4, c5, c6, c7, c8⟩ := hB0.nine
     clear hBW HSZ
     have s5 := Kp.refl w1
     go_wp2_with fail
     have y0 := fun s : KW w1 => KW.cell hB0 0 s
     have y1 := fun s : KW w1 => KW.cell hB0 1 s
     have y2 := fun s : KW w1 => KW.cell hB0 2 s
     have y3 := fun s : KW w1 => KW.cell hB0 3 s
     have y4 := fun s : KW w1 => KW.cell hB0 4 s
     have y5 := fun s : KW w1 => KW.cell hB0 5 s
     have y6 := fun s : KW w1 => KW.cell hB0 6 s
     have y7 := fun s : KW w1 => KW.cell hB0 7 s
     have y8 := fun s : KW w1 => KW.cell hB0 8 s
     simp only [List.append_eq, List.cons_append, List.nil_append]
     refine wp_region_kw (W := w1) (by kernel_rfl) (by kernel_rfl) ?_
     repeat (go_big_quiet_step ((go_at_call 64; exact kw_call (HTM.out _ ((h.below hb1).below (KW.h _))))))
     refine wpQuiet_nil ?_
     intro v1 hw1
     have hv1 : Kp w1 v1 := by obtain ⟨s, rfl⟩ := hw1; exact s.h
     clear hw1
     have hb2 : Below w.heap.size w v1 := hb1.trans (Below.mono hv1 hb1.size)
     clear y0 y1 y2 y3 y4 y5 y6 y7 y8 HTM HT
     go_wp2
     go_ret
     exact ⟨rfl, hb2⟩

set_option maxRecDepth 100000 in
set_option maxHeartbeats 16000000 in
theorem rucheck_c7 (bus mn up dn start idle spin on qs : Int) (A : Option Addr) (n c : Nat) (l : List (Int × Int)) (w : World) (h : StAt w A n l) (g1 : ¬ bus < 0) (g2 : ¬ 6 ≤ bus) (h3 : chk true l = 0) (hq : qsum l = qs) (k1 : ¬ mn < 0) (k2 : ¬ qs < mn) (r0 : ¬ up < 1) (r1 : ¬ 6 < up) (r2 : ¬ dn < 1) (r3 : ¬ 6 < dn) (r4 : ¬ start < 0) (r5 : ¬ 1000000000 < start) (r6 : ¬ idle < 0) (r7 : 1000000000 < idle) :
  Calls Tryz.prog 93 #[.agg #[.int .i64 bus, .int .i64 mn, .slice A n c, .int .i64 up, .int .i64 dn, .int .i64 start, .int .i64 idle, .int .i64 spin, .int .i64 on], .int .i64 6] w fun e w' => e = .returned (.int .i64 1) ∧ Below w.heap.size w w' := by
     have T := fun W hW => rcheck_up A n c l W hW
     have TM := fun W hW => rumax_raw bus mn up dn start idle spin on A n c l W hW
     have eu : umax ⟨bus, mn, l, up, dn, start, idle, spin, on⟩ = qs := by unfold umax; rw [if_pos h3]; exact hq
     rw [eu] at TM
     rw [h3] at T
     have HT := Lib.hid T
     have HTM := Lib.hid TM
     clear h3 T TM eu hq
     have hd : decide (mn < 0) = false := by simpa using k1
     have hd2 : decide (qs < mn) = false := by simpa using k2
     have q0 : decide (up < 1) = false := by simpa using r0
     have q1 : decide (6 < up) = false := by simpa using r1
     have q2 : decide (dn < 1) = false := by simpa using r2
     have q3 : decide (6 < dn) = false := by simpa using r3
     have q4 : decide (start < 0) = false := by simpa using r4
     have q5 : decide (1000000000 < start) = false := by simpa using r5
     have q6 : decide (idle < 0) = false := by simpa using r6
     have q7 : decide (1000000000 < idle) = true := by simpa using r7
     go_enter Tryz.func93, Tryz.ntmps93
     go_wp2_with fail
     obtain ⟨hB0, hBW, hsz⟩ := pre1 w 48 #[.int .i64 bus, .int .i64 mn, .slice A n c, .int .i64 up, .int .i64 dn, .int .i64 start, .int .i64 idle, .int .i64 spin, .int .i64 on]
     generalize w.alloc (.cells #[.int .i64 bus, .int .i64 mn, .slice A n c, .int .i64 up, .int .i64 dn, .int .i64 start, .int .i64 idle, .int .i64 spin, .int .i64 on] 48) = W at *
     have HSZ := Lib.hid hsz
     clear hsz

     refine (HT.out W (h.below hBW)).mono ?_
     rintro e w1 ⟨rfl, hb1⟩
     have hB0 := hB0.below hb1 hB0.lt

     have hb1 : Below w.heap.size w w1 := hBW.trans (hb1.mono hBW.size)
     obtain ⟨c0, c1, c2, c3, c4, c5, c6, c7, c8⟩ := hB0.nine
     clear hBW HSZ
     have s5 := Kp.refl w1
     go_wp2_with fail
     have y0 := fun s : KW w1 => KW.cell hB0 0 s
     have y1 := fun s : KW w1 => KW.cell hB0 1 s
     have y2 := fun s : KW w1 => KW.cell hB0 2 s
     have y3 := fun s : KW w1 => KW.cell hB0 3 s
     have y4 := fun s : KW w1 => KW.cell hB0 4 s
     have y5 := fun s : KW w1 => KW.cell hB0 5 s
     have y6 := fun s : KW w1 => KW.cell hB0 6 s
     have y7 := fun s : KW w1 => KW.cell hB0 7 s
     have y8 := fun s : KW w1 => KW.cell hB0 8 s
     simp only [List.append_eq, List.cons_append, List.nil_append]
     refine wp_region_kw (W := w1) (by kernel_rfl) (by kernel_rfl) ?_
     repeat (go_big_quiet_step ((go_at_call 64; exact kw_call (HTM.out _ ((h.below hb1).below (KW.h _))))))
     refine wpQuiet_nil ?_
     intro v1 hw1
     have hv1 : Kp w1 v1 := by obtain ⟨s, rfl⟩ := hw1; exact s.h
     clear hw1
     have hb2 : Below w.heap.size w v1 := hb1.trans (Below.mono hv1 hb1.size)
     clear y0 y1 y2 y3 y4 y5 y6 y7 y8 HTM HT
     go_wp2
     go_ret
     exact ⟨rfl, hb2⟩

end Go.Proofs.YtodkhjihkkmplaaGreat

namespace Go.Proofs.YtodkhjihkkmplaaGreat
set_option linter.unusedVariables false
set_option linter.unusedSimpArgs false
open Go.RowKit
open Wd



set_option maxRecDepth 100000 in
set_option maxHeartbeats 16000000 in
theorem rucheck_c8 (bus mn up dn start idle spin on qs : Int) (A : Option Addr) (n c : Nat) (l : List (Int × Int)) (w : World) (h : StAt w A n l) (g1 : ¬ bus < 0) (g2 : ¬ 6 ≤ bus) (h3 : chk true l = 0) (hq : qsum l = qs) (k1 : ¬ mn < 0) (k2 : ¬ qs < mn) (r0 : ¬ up < 1) (r1 : ¬ 6 < up) (r2 : ¬ dn < 1) (r3 : ¬ 6 < dn) (r4 : ¬ start < 0) (r5 : ¬ 1000000000 < start) (r6 : ¬ idle < 0) (r7 : ¬ 1000000000 < idle) (r8 : spin < 0) :
  Calls Tryz.prog 93 #[.agg #[.int .i64 bus, .int .i64 mn, .slice A n c, .int .i64 up, .int .i64 dn, .int .i64 start, .int .i64 idle, .int .i64 spin, .int .i64 on], .int .i64 6] w fun e w' => e = .returned (.int .i64 1) ∧ Below w.heap.size w w' := by
     have T := fun W hW => rcheck_up A n c l W hW
     have TM := fun W hW => rumax_raw bus mn up dn start idle spin on A n c l W hW
     have eu : umax ⟨bus, mn, l, up, dn, start, idle, spin, on⟩ = qs := by unfold umax; rw [if_pos h3]; exact hq
     rw [eu] at TM
     rw [h3] at T
     have HT := Lib.hid T
     have HTM := Lib.hid TM
     clear h3 T TM eu hq
     have hd : decide (mn < 0) = false := by simpa using k1
     have hd2 : decide (qs < mn) = false := by simpa using k2
     have q0 : decide (up < 1) = false := by simpa using r0
     have q1 : decide (6 < up) = false := by simpa using r1
     have q2 : decide (dn < 1) = false := by simpa using r2
     have q3 : decide (6 < dn) = false := by simpa using r3
     have q4 : decide (start < 0) = false := by simpa using r4
     have q5 : decide (1000000000 < start) = false := by simpa using r5
     have q6 : decide (idle < 0) = false := by simpa using r6
     have q7 : decide (1000000000 < idle) = false := by simpa using r7
     have q8 : decide (spin < 0) = true := by simpa using r8
     go_enter Tryz.func93, Tryz.ntmps93
     go_wp2_with fail
     obtain ⟨hB0, hBW, hsz⟩ := pre1 w 48 #[.int .i64 bus, .int .i64 mn, .slice A n c, .int .i64 up, .int .i64 dn, .int .i64 start, .int .i64 idle, .int .i64 spin, .int .i64 on]
     generalize w.alloc (.cells #[.int .i64 bus, .int .i64 mn, .slice A n c, .int .i64 up, .int .i64 dn, .int .i64 start, .int .i64 idle, .int .i64 spin, .int .i64 on] 48) = W at *
     have HSZ := Lib.hid hsz
     clear hsz

     refine (HT.out W (h.below hBW)).mono ?_
     rintro e w1 ⟨rfl, hb1⟩
     have hB0 := hB0.below hb1 hB0.lt

     have hb1 : Below w.heap.size w w1 := hBW.trans (hb1.mono hBW.size)
     obtain ⟨c0, c1, c2, c3, c4, c5, c6, c7, c8⟩ := hB0.nine
     clear hBW HSZ
     have s5 := Kp.refl w1
     go_wp2_with fail
     have y0 := fun s : KW w1 => KW.cell hB0 0 s
     have y1 := fun s : KW w1 => KW.cell hB0 1 s
     have y2 := fun s : KW w1 => KW.cell hB0 2 s
     have y3 := fun s : KW w1 => KW.cell hB0 3 s
     have y4 := fun s : KW w1 => KW.cell hB0 4 s
     have y5 := fun s : KW w1 => KW.cell hB0 5 s
     have y6 := fun s : KW w1 => KW.cell hB0 6 s
     have y7 := fun s : KW w1 => KW.cell hB0 7 s
     have y8 := fun s : KW w1 => KW.cell hB0 8 s
     simp only [List.append_eq, List.cons_append, List.nil_append]
     refine wp_region_kw (W := w1) (by kernel_rfl) (by kernel_rfl) ?_
     repeat (go_big_quiet_step ((go_at_call 64; exact kw_call (HTM.out _ ((h.below hb1).below (KW.h _))))))
     refine wpQuiet_nil ?_
     intro v1 hw1
     have hv1 : Kp w1 v1 := by obtain ⟨s, rfl⟩ := hw1; exact s.h
     clear hw1
     have hb2 : Below w.heap.size w v1 := hb1.trans (Below.mono hv1 hb1.size)
     clear y0 y1 y2 y3 y4 y5 y6 y7 y8 HTM HT
     go_wp2
     go_ret
     exact ⟨rfl, hb2⟩

set_option maxRecDepth 100000 in
set_option maxHeartbeats 16000000 in
theorem rucheck_c9 (bus mn up dn start idle spin on qs : Int) (A : Option Addr) (n c : Nat) (l : List (Int × Int)) (w : World) (h : StAt w A n l) (g1 : ¬ bus < 0) (g2 : ¬ 6 ≤ bus) (h3 : chk true l = 0) (hq : qsum l = qs) (k1 : ¬ mn < 0) (k2 : ¬ qs < mn) (r0 : ¬ up < 1) (r1 : ¬ 6 < up) (r2 : ¬ dn < 1) (r3 : ¬ 6 < dn) (r4 : ¬ start < 0) (r5 : ¬ 1000000000 < start) (r6 : ¬ idle < 0) (r7 : ¬ 1000000000 < idle) (r8 : ¬ spin < 0) (r9 : 1000000 < spin) :
  Calls Tryz.prog 93 #[.agg #[.int .i64 bus, .int .i64 mn, .slice A n c, .int .i64 up, .int .i64 dn, .int .i64 start, .int .i64 idle, .int .i64 spin, .int .i64 on], .int .i64 6] w fun e w' => e = .returned (.int .i64 1) ∧ Below w.heap.size w w' := by
     have T := fun W hW => rcheck_up A n c l W hW
     have TM := fun W hW => rumax_raw bus mn up dn start idle spin on A n c l W hW
     have eu : umax ⟨bus, mn, l, up, dn, start, idle, spin, on⟩ = qs := by unfold umax; rw [if_pos h3]; exact hq
     rw [eu] at TM
     rw [h3] at T
     have HT := Lib.hid T
     have HTM := Lib.hid TM
     clear h3 T TM eu hq
     have hd : decide (mn < 0) = false := by simpa using k1
     have hd2 : decide (qs < mn) = false := by simpa using k2
     have q0 : decide (up < 1) = false := by simpa using r0
     have q1 : decide (6 < up) = false := by simpa using r1
     have q2 : decide (dn < 1) = false := by simpa using r2
     have q3 : decide (6 < dn) = false := by simpa using r3
     have q4 : decide (start < 0) = false := by simpa using r4
     have q5 : decide (1000000000 < start) = false := by simpa using r5
     have q6 : decide (idle < 0) = false := by simpa using r6
     have q7 : decide (1000000000 < idle) = false := by simpa using r7
     have q8 : decide (spin < 0) = false := by simpa using r8
     have q9 : decide (1000000 < spin) = true := by simpa using r9
     go_enter Tryz.func93, Tryz.ntmps93
     go_wp2_with fail
     obtain ⟨hB0, hBW, hsz⟩ := pre1 w 48 #[.int .i64 bus, .int .i64 mn, .slice A n c, .int .i64 up, .int .i64 dn, .int .i64 start, .int .i64 idle, .int .i64 spin, .int .i64 on]
     generalize w.alloc (.cells #[.int .i64 bus, .int .i64 mn, .slice A n c, .int .i64 up, .int .i64 dn, .int .i64 start, .int .i64 idle, .int .i64 spin, .int .i64 on] 48) = W at *
     have HSZ := Lib.hid hsz
     clear hsz

     refine (HT.out W (h.below hBW)).mono ?_
     rintro e w1 ⟨rfl, hb1⟩
     have hB0 := hB0.below hb1 hB0.lt

     have hb1 : Below w.heap.size w w1 := hBW.trans (hb1.mono hBW.size)
     obtain ⟨c0, c1, c2, c3, c4, c5, c6, c7, c8⟩ := hB0.nine
     clear hBW HSZ
     have s5 := Kp.refl w1
     go_wp2_with fail
     have y0 := fun s : KW w1 => KW.cell hB0 0 s
     have y1 := fun s : KW w1 => KW.cell hB0 1 s
     have y2 := fun s : KW w1 => KW.cell hB0 2 s
     have y3 := fun s : KW w1 => KW.cell hB0 3 s
     have y4 := fun s : KW w1 => KW.cell hB0 4 s
     have y5 := fun s : KW w1 => KW.cell hB0 5 s
     have y6 := fun s : KW w1 => KW.cell hB0 6 s
     have y7 := fun s : KW w1 => KW.cell hB0 7 s
     have y8 := fun s : KW w1 => KW.cell hB0 8 s
     simp only [List.append_eq, List.cons_append, List.nil_append]
     refine wp_region_kw (W := w1) (by kernel_rfl) (by kernel_rfl) ?_
     repeat (go_big_quiet_step ((go_at_call 64; exact kw_call (HTM.out _ ((h.below hb1).below (KW.h _))))))
     refine wpQuiet_nil ?_
     intro v1 hw1
     have hv1 : Kp w1 v1 := by obtain ⟨s, rfl⟩ := hw1; exact s.h
     clear hw1
     have hb2 : Below w.heap.size w v1 := hb1.trans (Below.mono hv1 hb1.size)
     clear y0 y1 y2 y3 y4 y5 y6 y7 y8 HTM HT
     go_wp2
     go_ret
     exact ⟨rfl, hb2⟩

set_option maxRecDepth 100000 in
set_option maxHeartbeats 16000000 in
theorem rucheck_c10 (bus mn up dn start idle spin on qs : Int) (A : Option Addr) (n c : Nat) (l : List (Int × Int)) (w : World) (h : StAt w A n l) (g1 : ¬ bus < 0) (g2 : ¬ 6 ≤ bus) (h3 : chk true l = 0) (hq : qsum l = qs) (k1 : ¬ mn < 0) (k2 : ¬ qs < mn) (r0 : ¬ up < 1) (r1 : ¬ 6 < up) (r2 : ¬ dn < 1) (r3 : ¬ 6 < dn) (r4 : ¬ start < 0) (r5 : ¬ 1000000000 < start) (r6 : ¬ idle < 0) (r7 : ¬ 1000000000 < idle) (r8 : ¬ spin < 0) (r9 : ¬ 1000000 < spin) (r10 : on = 0) :
  Calls Tryz.prog 93 #[.agg #[.int .i64 bus, .int .i64 mn, .slice A n c, .int .i64 up, .int .i64 dn, .int .i64 start, .int .i64 idle, .int .i64 spin, .int .i64 on], .int .i64 6] w fun e w' => e = .returned (.int .i64 1) ∧ Below w.heap.size w w' := by
     have T := fun W hW => rcheck_up A n c l W hW
     have TM := fun W hW => rumax_raw bus mn up dn start idle spin on A n c l W hW
     have eu : umax ⟨bus, mn, l, up, dn, start, idle, spin, on⟩ = qs := by unfold umax; rw [if_pos h3]; exact hq
     rw [eu] at TM
     rw [h3] at T
     have HT := Lib.hid T
     have HTM := Lib.hid TM
     clear h3 T TM eu hq
     have hd : decide (mn < 0) = false := by simpa using k1
     have hd2 : decide (qs < mn) = false := by simpa using k2
     have q0 : decide (up < 1) = false := by simpa using r0
     have q1 : decide (6 < up) = false := by simpa using r1
     have q2 : decide (dn < 1) = false := by simpa using r2
     have q3 : decide (6 < dn) = false := by simpa using r3
     have q4 : decide (start < 0) = false := by simpa using r4
     have q5 : decide (1000000000 < start) = false := by simpa using r5
     have q6 : decide (idle < 0) = false := by simpa using r6
     have q7 : decide (1000000000 < idle) = false := by simpa using r7
     have q8 : decide (spin < 0) = false := by simpa using r8
     have q9 : decide (1000000 < spin) = false := by simpa using r9
     subst r10
     go_enter Tryz.func93, Tryz.ntmps93
     go_wp2_with fail
     obtain ⟨hB0, hBW, hsz⟩ := pre1 w 48 #[.int .i64 bus, .int .i64 mn, .slice A n c, .int .i64 up, .int .i64 dn, .int .i64 start, .int .i64 idle, .int .i64 spin, .int .i64 0]
     generalize w.alloc (.cells #[.int .i64 bus, .int .i64 mn, .slice A n c, .int .i64 up, .int .i64 dn, .int .i64 start, .int .i64 idle, .int .i64 spin, .int .i64 0] 48) = W at *
     have HSZ := Lib.hid hsz
     clear hsz

     refine (HT.out W (h.below hBW)).mono ?_
     rintro e w1 ⟨rfl, hb1⟩
     have hB0 := hB0.below hb1 hB0.lt

     have hb1 : Below w.heap.size w w1 := hBW.trans (hb1.mono hBW.size)
     obtain ⟨c0, c1, c2, c3, c4, c5, c6, c7, c8⟩ := hB0.nine
     clear hBW HSZ
     have s5 := Kp.refl w1
     go_wp2_with fail
     have y0 := fun s : KW w1 => KW.cell hB0 0 s
     have y1 := fun s : KW w1 => KW.cell hB0 1 s
     have y2 := fun s : KW w1 => KW.cell hB0 2 s
     have y3 := fun s : KW w1 => KW.cell hB0 3 s
     have y4 := fun s : KW w1 => KW.cell hB0 4 s
     have y5 := fun s : KW w1 => KW.cell hB0 5 s
     have y6 := fun s : KW w1 => KW.cell hB0 6 s
     have y7 := fun s : KW w1 => KW.cell hB0 7 s
     have y8 := fun s : KW w1 => KW.cell hB0 8 s
     simp only [List.append_eq, List.cons_append, List.nil_append]
     refine wp_region_kw (W := w1) (by kernel_rfl) (by kernel_rfl) ?_
     repeat (go_big_quiet_step ((go_at_call 64; exact kw_call (HTM.out _ ((h.below hb1).below (KW.h _))))))
     refine wpQuiet_nil ?_
     intro v1 hw1
     have hv1 : Kp w1 v1 := by obtain ⟨s, rfl⟩ := hw1; exact s.h
     clear hw1
     have hb2 : Below w.heap.size w v1 := hb1.trans (Below.mono hv1 hb1.size)
     clear y0 y1 y2 y3 y4 y5 y6 y7 y8 HTM HT
     go_wp2
     go_ret
     exact ⟨rfl, hb2⟩

set_option maxRecDepth 100000 in
set_option maxHeartbeats 16000000 in
theorem rucheck_c11 (bus mn up dn start idle spin on qs : Int) (A : Option Addr) (n c : Nat) (l : List (Int × Int)) (w : World) (h : StAt w A n l) (g1 : ¬ bus < 0) (g2 : ¬ 6 ≤ bus) (h3 : chk true l = 0) (hq : qsum l = qs) (k1 : ¬ mn < 0) (k2 : ¬ qs < mn) (r0 : ¬ up < 1) (r1 : ¬ 6 < up) (r2 : ¬ dn < 1) (r3 : ¬ 6 < dn) (r4 : ¬ start < 0) (r5 : ¬ 1000000000 < start) (r6 : ¬ idle < 0) (r7 : ¬ 1000000000 < idle) (r8 : ¬ spin < 0) (r9 : ¬ 1000000 < spin) (r10 : ¬ on = 0) (r11 : on < -6) :
  Calls Tryz.prog 93 #[.agg #[.int .i64 bus, .int .i64 mn, .slice A n c, .int .i64 up, .int .i64 dn, .int .i64 start, .int .i64 idle, .int .i64 spin, .int .i64 on], .int .i64 6] w fun e w' => e = .returned (.int .i64 1) ∧ Below w.heap.size w w' := by
     have T := fun W hW => rcheck_up A n c l W hW
     have TM := fun W hW => rumax_raw bus mn up dn start idle spin on A n c l W hW
     have eu : umax ⟨bus, mn, l, up, dn, start, idle, spin, on⟩ = qs := by unfold umax; rw [if_pos h3]; exact hq
     rw [eu] at TM
     rw [h3] at T
     have HT := Lib.hid T
     have HTM := Lib.hid TM
     clear h3 T TM eu hq
     have hd : decide (mn < 0) = false := by simpa using k1
     have hd2 : decide (qs < mn) = false := by simpa using k2
     have q0 : decide (up < 1) = false := by simpa using r0
     have q1 : decide (6 < up) = false := by simpa using r1
     have q2 : decide (dn < 1) = false := by simpa using r2
     have q3 : decide (6 < dn) = false := by simpa using r3
     have q4 : decide (start < 0) = false := by simpa using r4
     have q5 : decide (1000000000 < start) = false := by simpa using r5
     have q6 : decide (idle < 0) = false := by simpa using r6
     have q7 : decide (1000000000 < idle) = false := by simpa using r7
     have q8 : decide (spin < 0) = false := by simpa using r8
     have q9 : decide (1000000 < spin) = false := by simpa using r9
     have q10 : (on == 0) = false := by simpa using r10
     have q11 : decide (on < -6) = true := by simpa using r11
     go_enter Tryz.func93, Tryz.ntmps93
     go_wp2_with fail
     obtain ⟨hB0, hBW, hsz⟩ := pre1 w 48 #[.int .i64 bus, .int .i64 mn, .slice A n c, .int .i64 up, .int .i64 dn, .int .i64 start, .int .i64 idle, .int .i64 spin, .int .i64 on]
     generalize w.alloc (.cells #[.int .i64 bus, .int .i64 mn, .slice A n c, .int .i64 up, .int .i64 dn, .int .i64 start, .int .i64 idle, .int .i64 spin, .int .i64 on] 48) = W at *
     have HSZ := Lib.hid hsz
     clear hsz

     refine (HT.out W (h.below hBW)).mono ?_
     rintro e w1 ⟨rfl, hb1⟩
     have hB0 := hB0.below hb1 hB0.lt

     have hb1 : Below w.heap.size w w1 := hBW.trans (hb1.mono hBW.size)
     obtain ⟨c0, c1, c2, c3, c4, c5, c6, c7, c8⟩ := hB0.nine
     clear hBW HSZ
     have s5 := Kp.refl w1
     go_wp2_with fail
     have y0 := fun s : KW w1 => KW.cell hB0 0 s
     have y1 := fun s : KW w1 => KW.cell hB0 1 s
     have y2 := fun s : KW w1 => KW.cell hB0 2 s
     have y3 := fun s : KW w1 => KW.cell hB0 3 s
     have y4 := fun s : KW w1 => KW.cell hB0 4 s
     have y5 := fun s : KW w1 => KW.cell hB0 5 s
     have y6 := fun s : KW w1 => KW.cell hB0 6 s
     have y7 := fun s : KW w1 => KW.cell hB0 7 s
     have y8 := fun s : KW w1 => KW.cell hB0 8 s
     simp only [List.append_eq, List.cons_append, List.nil_append]
     refine wp_region_kw (W := w1) (by kernel_rfl) (by kernel_rfl) ?_
     repeat (go_big_quiet_step ((go_at_call 64; exact kw_call (HTM.out _ ((h.below hb1).below (KW.h _))))))
     refine wpQuiet_nil ?_
     intro v1 hw1
     have hv1 : Kp w1 v1 := by obtain ⟨s, rfl⟩ := hw1; exact s.h
     clear hw1
     have hb2 : Below w.heap.size w v1 := hb1.trans (Below.mono hv1 hb1.size)
     clear y0 y1 y2 y3 y4 y5 y6 y7 y8 HTM HT
     go_wp2
     go_ret
     exact ⟨rfl, hb2⟩

set_option maxRecDepth 100000 in
set_option maxHeartbeats 16000000 in
theorem rucheck_c12 (bus mn up dn start idle spin on qs : Int) (A : Option Addr) (n c : Nat) (l : List (Int × Int)) (w : World) (h : StAt w A n l) (g1 : ¬ bus < 0) (g2 : ¬ 6 ≤ bus) (h3 : chk true l = 0) (hq : qsum l = qs) (k1 : ¬ mn < 0) (k2 : ¬ qs < mn) (r0 : ¬ up < 1) (r1 : ¬ 6 < up) (r2 : ¬ dn < 1) (r3 : ¬ 6 < dn) (r4 : ¬ start < 0) (r5 : ¬ 1000000000 < start) (r6 : ¬ idle < 0) (r7 : ¬ 1000000000 < idle) (r8 : ¬ spin < 0) (r9 : ¬ 1000000 < spin) (r10 : ¬ on = 0) (r11 : ¬ on < -6) (r12 : 6 < on) :
  Calls Tryz.prog 93 #[.agg #[.int .i64 bus, .int .i64 mn, .slice A n c, .int .i64 up, .int .i64 dn, .int .i64 start, .int .i64 idle, .int .i64 spin, .int .i64 on], .int .i64 6] w fun e w' => e = .returned (.int .i64 1) ∧ Below w.heap.size w w' := by
     have T := fun W hW => rcheck_up A n c l W hW
     have TM := fun W hW => rumax_raw bus mn up dn start idle spin on A n c l W hW
     have eu : umax ⟨bus, mn, l, up, dn, start, idle, spin, on⟩ = qs := by unfold umax; rw [if_pos h3]; exact hq
     rw [eu] at TM
     rw [h3] at T
     have HT := Lib.hid T
     have HTM := Lib.hid TM
     clear h3 T TM eu hq
     have hd : decide (mn < 0) = false := by simpa using k1
     have hd2 : decide (qs < mn) = false := by simpa using k2
     have q0 : decide (up < 1) = false := by simpa using r0
     have q1 : decide (6 < up) = false := by simpa using r1
     have q2 : decide (dn < 1) = false := by simpa using r2
     have q3 : decide (6 < dn) = false := by simpa using r3
     have q4 : decide (start < 0) = false := by simpa using r4
     have q5 : decide (1000000000 < start) = false := by simpa using r5
     have q6 : decide (idle < 0) = false := by simpa using r6
     have q7 : decide (1000000000 < idle) = false := by simpa using r7
     have q8 : decide (spin < 0) = false := by simpa using r8
     have q9 : decide (1000000 < spin) = false := by simpa using r9
     have q10 : (on == 0) = false := by simpa using r10
     have q11 : decide (on < -6) = false := by simpa using r11
     have q12 : decide (6 < on) = true := by simpa using r12
     go_enter Tryz.func93, Tryz.ntmps93
     go_wp2_with fail
     obtain ⟨hB0, hBW, hsz⟩ := pre1 w 48 #[.int .i64 bus, .int .i64 mn, .slice A n c, .int .i64 up, .int .i64 dn, .int .i64 start, .int .i64 idle, .int .i64 spin, .int .i64 on]
     generalize w.alloc (.cells #[.int .i64 bus, .int .i64 mn, .slice A n c, .int .i64 up, .int .i64 dn, .int .i64 start, .int .i64 idle, .int .i64 spin, .int .i64 on] 48) = W at *
     have HSZ := Lib.hid hsz
     clear hsz

     refine (HT.out W (h.below hBW)).mono ?_
     rintro e w1 ⟨rfl, hb1⟩
     have hB0 := hB0.below hb1 hB0.lt

     have hb1 : Below w.heap.size w w1 := hBW.trans (hb1.mono hBW.size)
     obtain ⟨c0, c1, c2, c3, c4, c5, c6, c7, c8⟩ := hB0.nine
     clear hBW HSZ
     have s5 := Kp.refl w1
     go_wp2_with fail
     have y0 := fun s : KW w1 => KW.cell hB0 0 s
     have y1 := fun s : KW w1 => KW.cell hB0 1 s
     have y2 := fun s : KW w1 => KW.cell hB0 2 s
     have y3 := fun s : KW w1 => KW.cell hB0 3 s
     have y4 := fun s : KW w1 => KW.cell hB0 4 s
     have y5 := fun s : KW w1 => KW.cell hB0 5 s
     have y6 := fun s : KW w1 => KW.cell hB0 6 s
     have y7 := fun s : KW w1 => KW.cell hB0 7 s
     have y8 := fun s : KW w1 => KW.cell hB0 8 s
     simp only [List.append_eq, List.cons_append, List.nil_append]
     refine wp_region_kw (W := w1) (by kernel_rfl) (by kernel_rfl) ?_
     repeat (go_big_quiet_step ((go_at_call 64; exact kw_call (HTM.out _ ((h.below hb1).below (KW.h _))))))
     refine wpQuiet_nil ?_
     intro v1 hw1
     have hv1 : Kp w1 v1 := by obtain ⟨s, rfl⟩ := hw1; exact s.h
     clear hw1
     have hb2 : Below w.heap.size w v1 := hb1.trans (Below.mono hv1 hb1.size)
     clear y0 y1 y2 y3 y4 y5 y6 y7 y8 HTM HT
     go_wp2
     go_ret
     exact ⟨rfl, hb2⟩

end Go.Proofs.YtodkhjihkkmplaaGreat
