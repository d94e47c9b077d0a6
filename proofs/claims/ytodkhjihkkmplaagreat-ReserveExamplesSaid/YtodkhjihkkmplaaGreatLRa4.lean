/-
The reference of layer 1 at numbers of any size: add, sub, times. No statement of the seat is proved here; no conditions beyond those of each theorem.
-/
import Derived.Test.YtodkhjihkkmplaaGreatLPT
namespace Go.Proofs.YtodkhjihkkmplaaGreat
set_option linter.unusedVariables false
set_option linter.unusedSimpArgs false
open Go.RowKit
open Wd

/-- A number handed back as digits in new memory. -/
def RetF (w : World) (v : Nat) (e : Ending) (w' : World) : Prop := ∃ A n c, e = .returned (.slice A n c) ∧ HA w' A n c v ∧ Below w.heap.size w w' ∧ (n ≠ 0 → ∃ b o, A = some ⟨b, o, none⟩ ∧ w.heap.size ≤ b)
/-- A number handed back as digits. -/
def RetH (w : World) (v : Nat) (e : Ending) (w' : World) : Prop := ∃ A n c, e = .returned (.slice A n c) ∧ HA w' A n c v ∧ Below w.heap.size w w'
theorem RetF.h {w : World} {v : Nat} {e : Ending} {w' : World} (h : RetF w v e w') : RetH w v e w' := by
 obtain ⟨A, n, c, h1, h2, h3, _⟩ := h
 exact ⟨A, n, c, h1, h2, h3⟩
theorem int_one {b : Int} : ∀ u ∈ (#[.int .i64 b] : Array Value).toList, u.oneCell' = true := by
 intro u hu
 simp at hu
 rw [hu]
 rfl
theorem Own.ra {base : Nat} {e : TypeId} {w : World} {A : Option Addr} {n c : Nat} {hs : List Int} (h : Own base e 1 w A n c (hs.map (Value.int .i64))) (hd : Dg hs) : RA w A n c (vh hs) := by
 refine ⟨hs, h.ints, hd, rfl, ?_⟩
 rcases h.2 with ⟨h7, h8⟩ | ⟨g', cap', cur', h7, _, _, h8, _⟩
 ·omega
 ·simp at h7; omega
theorem w64_in (x : Int) (h : -9223372036854775808 ≤ x ∧ x ≤ 9223372036854775807) : wrap64 x = x := by
 unfold wrap64
 omega
theorem tmod_dg (v : Nat) : (v : Int).tmod 65536 = ((v % 65536 : Nat) : Int) := by rw [Int.tmod_eq_emod_of_nonneg (by omega)]; simp
theorem tdiv_dg (v : Nat) : (v : Int).tdiv 65536 = ((v / 65536 : Nat) : Int) := by rw [Int.tdiv_eq_ediv_of_nonneg (by omega)]; simp

set_option maxRecDepth 100000 in
set_option maxHeartbeats 4000000 in
theorem add_ra (A B : Option Addr) (n c m d a b : Nat) (w : World) (h : RA w A n c a) (h' : RA w B m d b) (hn : n ≤ 20000000000) (hm : m ≤ 20000000000) :
  Calls Tryz.prog 128 #[.slice A n c, .slice B m d] w (RetH w (a + b)) := by
 have TA := Lib.hid (fun (i : Nat) (W : World) (hW : Below w.heap.size w W) => at_ra A n c a i W (h.below hW))
 have TB := Lib.hid (fun (i : Nat) (W : World) (hW : Below w.heap.size w W) => at_ra B m d b i W (h'.below hW))
 have HA2 := Lib.hid h.lt
 have HB2 := Lib.hid h'.lt
 obtain ⟨ii, hii, hz0, hz1, hz2⟩ := info_parts info_int
 have HI := Lib.hid hii
 have HZ0 := Lib.hid hz0
 have HZ1 := Lib.hid hz1
 have HZ2 := Lib.hid hz2
 clear h h' hii hz0 hz1 hz2
 go_enter Tryz.func128, Tryz.ntmps128
 go_wp2_with fail
 go_loopw [5, 6, 7] (fun tout tc ti wr => ∃ (i : Nat) (Ah : Option Addr) (ch cy : Nat) (hs : List Int), i + cy ≤ max n m + 1 ∧ tout = .slice Ah i ch ∧ tc = .int .i64 (cy : Int) ∧ ti = .int .i64 (i : Int) ∧ cy ≤ 1 ∧ Hid (Below w.heap.size w wr ∧ Own w.heap.size 3 1 wr Ah i ch (hs.map (Value.int .i64)) ∧ AddI a b i hs cy)) (fun _ tc ti _ => 2 * (max n m - (intOf ti).toNat) + (intOf tc).toNat)
 case atStart => exact ⟨0, none, 0, 0, [], by omega, rfl, rfl, rfl, by omega, Below.refl _ _, Own.nil _ _ _ _, AddI.start a b⟩
 case round =>
  obtain ⟨i, Ah, ch, cy, hs, hi, rfl, rfl, rfl, hcy, hR⟩ := hrel
  by_cases h1 : i < n
  ·have d1 : decide ((i : Int) < (n : Int)) = true := decide_eq_true (by omega)
   have l1 := dg_lt a i
   have l2 := dg_lt b i
   have T1 := Lib.hid (TA.out i wr hR.out.1)
   have T2 := Lib.hid (TB.out i wr hR.out.1)
   have hst := hR.out.2.2.step
   have hme : (dg a i + dg b i + cy) / 65536 ≤ 1 ∧ i + 1 + (dg a i + dg b i + cy) / 65536 ≤ max n m + 1 ∧ 2 * (max n m - (i + 1)) + (dg a i + dg b i + cy) / 65536 < 2 * (max n m - i) + cy := by
    by_cases hi : i < max n m
    ·omega
    ·have z1 : dg a i = 0 := dg_over (lt_pow_le HA2.out (by omega))
     have z2 : dg b i = 0 := dg_over (lt_pow_le HB2.out (by omega))
     omega
   obtain ⟨hB, hO, -⟩ := hR.out
   generalize dg a i = x at *
   generalize dg b i = y at *
   have e1 : IntKind.i64.wrap ((x : Int) + (y : Int)) = ((x + y : Nat) : Int) := IntWalk.i64_in _ (by omega)
   have e2 : IntKind.i64.wrap (((x + y : Nat) : Int) + (cy : Int)) = ((x + y + cy : Nat) : Int) := IntWalk.i64_in _ (by omega)
   have hv : x + y + cy ≤ 131072 := by omega
   generalize x + y + cy = v at *
   generalize ((x + y : Nat) : Int) = s at *
   have e3 := tmod_dg v
   have e4 := tdiv_dg v
   have e5 : (v : Int) % 65536 = ((v % 65536 : Nat) : Int) := by simp
   have e6 : (v : Int) / 65536 = ((v / 65536 : Nat) : Int) := by simp
   have e7 : IntKind.i64.wrap ((v % 65536 : Nat) : Int) = ((v % 65536 : Nat) : Int) := IntWalk.i64_in _ (by omega)
   have e8 : IntKind.i64.wrap ((v / 65536 : Nat) : Int) = ((v / 65536 : Nat) : Int) := IntWalk.i64_in _ (by omega)
   generalize v % 65536 = r at *
   generalize v / 65536 = q at *
   have hil : i + 1 ≤ 40000000002 := by omega
   have e9 : IntKind.i64.wrap ((i : Int) + 1) = ((i + 1 : Nat) : Int) := IntWalk.i64_in _ (by omega)
   have HST := Lib.hid hst
   have HME := Lib.hid hme
   clear hst hme hR l1 l2 hv
   have k1 := (Kp.refl wr).alloc (.cells #[.int .i64 (r : Int)] 3)
   have q1 : Below w.heap.size w (wr.alloc (.cells #[.int .i64 (r : Int)] 3)) := hB.trans (Below.mono k1 hB.size)
   have o1 := hO.keep k1
   have m1 := Blk.new wr 3 #[.int .i64 (r : Int)]
   clear hB hO
   go_wp2_with fail
   refine T1.out.mono ?_
   rintro e w2 ⟨rfl, rfl⟩
   clear T1
   go_wp2_with fail
   refine T2.out.mono ?_
   rintro e w3 ⟨rfl, rfl⟩
   clear T2
   go_wp2_with (first
    | (at_builtin; refine wpList_append_my rfl (base := w.heap.size) (e := 3) (size := 1) (bytes := 8) (.tmp 34) (.tmp 37) 66 rfl Tryz.underlying66 HI.out HZ0.out HZ1.out HZ2.out rfl (by decide) (xs := hs.map (Value.int .i64)) (news := [.int .i64 (r : Int)]) rfl (by exact o1) rfl (by exact Blk.src m1 rfl int_one) (by simp only [maxLen]; omega) (by omega) (by exact q1.size) ?_
       intro B1 cb1 w4 hO1 hb1 hk1
       have g1 : Below w.heap.size w w4 := q1.trans hb1
       clear hb1 hk1))
   have hfin : Below w.heap.size w w4 ∧ Own w.heap.size 3 1 w4 B1 (i + 1) cb1 ((hs ++ [(r : Int)]).map (Value.int .i64)) ∧ AddI a b (i + 1) (hs ++ [(r : Int)]) q := by
    refine ⟨g1, ?_, HST.out⟩
    rw [List.map_append]
    exact hO1
   have HF := Lib.hid hfin
   clear hfin g1 hO1 m1 o1 q1 k1
   go_wp2
   go_roundw
   case rel => exact ⟨i + 1, B1, cb1, q, hs ++ [(r : Int)], by have := HME.out; omega, rfl, rfl, by first | rfl | (rw [e9]), HME.out.1, HF.out⟩
   case measure => have := HME.out; simp [intOf]; omega
  ·have d1 : decide ((i : Int) < (n : Int)) = false := decide_eq_false (by omega)
   by_cases h2 : i < m
   ·have d2 : decide ((i : Int) < (m : Int)) = true := decide_eq_true (by omega)
    have l1 := dg_lt a i
    have l2 := dg_lt b i
    have T1 := Lib.hid (TA.out i wr hR.out.1)
    have T2 := Lib.hid (TB.out i wr hR.out.1)
    have hst := hR.out.2.2.step
    have hme : (dg a i + dg b i + cy) / 65536 ≤ 1 ∧ i + 1 + (dg a i + dg b i + cy) / 65536 ≤ max n m + 1 ∧ 2 * (max n m - (i + 1)) + (dg a i + dg b i + cy) / 65536 < 2 * (max n m - i) + cy := by
     by_cases hi : i < max n m
     ·omega
     ·have z1 : dg a i = 0 := dg_over (lt_pow_le HA2.out (by omega))
      have z2 : dg b i = 0 := dg_over (lt_pow_le HB2.out (by omega))
      omega
    obtain ⟨hB, hO, -⟩ := hR.out
    generalize dg a i = x at *
    generalize dg b i = y at *
    have e1 : IntKind.i64.wrap ((x : Int) + (y : Int)) = ((x + y : Nat) : Int) := IntWalk.i64_in _ (by omega)
    have e2 : IntKind.i64.wrap (((x + y : Nat) : Int) + (cy : Int)) = ((x + y + cy : Nat) : Int) := IntWalk.i64_in _ (by omega)
    have hv : x + y + cy ≤ 131072 := by omega
    generalize x + y + cy = v at *
    generalize ((x + y : Nat) : Int) = s at *
    have e3 := tmod_dg v
    have e4 := tdiv_dg v
    have e5 : (v : Int) % 65536 = ((v % 65536 : Nat) : Int) := by simp
    have e6 : (v : Int) / 65536 = ((v / 65536 : Nat) : Int) := by simp
    have e7 : IntKind.i64.wrap ((v % 65536 : Nat) : Int) = ((v % 65536 : Nat) : Int) := IntWalk.i64_in _ (by omega)
    have e8 : IntKind.i64.wrap ((v / 65536 : Nat) : Int) = ((v / 65536 : Nat) : Int) := IntWalk.i64_in _ (by omega)
    generalize v % 65536 = r at *
    generalize v / 65536 = q at *
    have hil : i + 1 ≤ 40000000002 := by omega
    have e9 : IntKind.i64.wrap ((i : Int) + 1) = ((i + 1 : Nat) : Int) := IntWalk.i64_in _ (by omega)
    have HST := Lib.hid hst
    have HME := Lib.hid hme
    clear hst hme hR l1 l2 hv
    have k1 := (Kp.refl wr).alloc (.cells #[.int .i64 (r : Int)] 3)
    have q1 : Below w.heap.size w (wr.alloc (.cells #[.int .i64 (r : Int)] 3)) := hB.trans (Below.mono k1 hB.size)
    have o1 := hO.keep k1
    have m1 := Blk.new wr 3 #[.int .i64 (r : Int)]
    clear hB hO
    go_wp2_with fail
    refine T1.out.mono ?_
    rintro e w2 ⟨rfl, rfl⟩
    clear T1
    go_wp2_with fail
    refine T2.out.mono ?_
    rintro e w3 ⟨rfl, rfl⟩
    clear T2
    go_wp2_with (first
     | (at_builtin; refine wpList_append_my rfl (base := w.heap.size) (e := 3) (size := 1) (bytes := 8) (.tmp 34) (.tmp 37) 66 rfl Tryz.underlying66 HI.out HZ0.out HZ1.out HZ2.out rfl (by decide) (xs := hs.map (Value.int .i64)) (news := [.int .i64 (r : Int)]) rfl (by exact o1) rfl (by exact Blk.src m1 rfl int_one) (by simp only [maxLen]; omega) (by omega) (by exact q1.size) ?_
        intro B1 cb1 w4 hO1 hb1 hk1
        have g1 : Below w.heap.size w w4 := q1.trans hb1
        clear hb1 hk1))
    have hfin : Below w.heap.size w w4 ∧ Own w.heap.size 3 1 w4 B1 (i + 1) cb1 ((hs ++ [(r : Int)]).map (Value.int .i64)) ∧ AddI a b (i + 1) (hs ++ [(r : Int)]) q := by
     refine ⟨g1, ?_, HST.out⟩
     rw [List.map_append]
     exact hO1
    have HF := Lib.hid hfin
    clear hfin g1 hO1 m1 o1 q1 k1
    go_wp2
    go_roundw
    case rel => exact ⟨i + 1, B1, cb1, q, hs ++ [(r : Int)], by have := HME.out; omega, rfl, rfl, by first | rfl | (rw [e9]), HME.out.1, HF.out⟩
    case measure => have := HME.out; simp [intOf]; omega
   ·have d2 : decide ((i : Int) < (m : Int)) = false := decide_eq_false (by omega)
    by_cases h3 : cy = 0
    ·subst h3
     obtain ⟨hB, hO, hI⟩ := hR.out
     have hv := hI.done (lt_pow_le HA2.out (by omega)) (lt_pow_le HB2.out (by omega))
     have hra := hO.ra hI.2.1
     rw [hv] at hra
     have HT := Lib.hid (trim_ra Ah i ch (a + b) wr hra (by omega))
     have HB := Lib.hid hB
     clear hR hB hO hI hv hra TA TB
     go_wp2_with fail
     refine HT.out.mono ?_
     rintro e w1 ⟨A1, n1, rfl, hI, rfl⟩
     have HI2 := Lib.hid hI
     clear hI HT
     go_wp2
     go_ret
     exact ⟨A1, n1, ch, rfl, HI2.out, HB.out⟩
    ·have d3 : decide ((0 : Int) < (cy : Int)) = true := decide_eq_true (by omega)
     have l1 := dg_lt a i
     have l2 := dg_lt b i
     have T1 := Lib.hid (TA.out i wr hR.out.1)
     have T2 := Lib.hid (TB.out i wr hR.out.1)
     have hst := hR.out.2.2.step
     have hme : (dg a i + dg b i + cy) / 65536 ≤ 1 ∧ i + 1 + (dg a i + dg b i + cy) / 65536 ≤ max n m + 1 ∧ 2 * (max n m - (i + 1)) + (dg a i + dg b i + cy) / 65536 < 2 * (max n m - i) + cy := by
      by_cases hi : i < max n m
      ·omega
      ·have z1 : dg a i = 0 := dg_over (lt_pow_le HA2.out (by omega))
       have z2 : dg b i = 0 := dg_over (lt_pow_le HB2.out (by omega))
       omega
     obtain ⟨hB, hO, -⟩ := hR.out
     generalize dg a i = x at *
     generalize dg b i = y at *
     have e1 : IntKind.i64.wrap ((x : Int) + (y : Int)) = ((x + y : Nat) : Int) := IntWalk.i64_in _ (by omega)
     have e2 : IntKind.i64.wrap (((x + y : Nat) : Int) + (cy : Int)) = ((x + y + cy : Nat) : Int) := IntWalk.i64_in _ (by omega)
     have hv : x + y + cy ≤ 131072 := by omega
     generalize x + y + cy = v at *
     generalize ((x + y : Nat) : Int) = s at *
     have e3 := tmod_dg v
     have e4 := tdiv_dg v
     have e5 : (v : Int) % 65536 = ((v % 65536 : Nat) : Int) := by simp
     have e6 : (v : Int) / 65536 = ((v / 65536 : Nat) : Int) := by simp
     have e7 : IntKind.i64.wrap ((v % 65536 : Nat) : Int) = ((v % 65536 : Nat) : Int) := IntWalk.i64_in _ (by omega)
     have e8 : IntKind.i64.wrap ((v / 65536 : Nat) : Int) = ((v / 65536 : Nat) : Int) := IntWalk.i64_in _ (by omega)
     generalize v % 65536 = r at *
     generalize v / 65536 = q at *
     have hil : i + 1 ≤ 40000000002 := by omega
     have e9 : IntKind.i64.wrap ((i : Int) + 1) = ((i + 1 : Nat) : Int) := IntWalk.i64_in _ (by omega)
     have HST := Lib.hid hst
     have HME := Lib.hid hme
     clear hst hme hR l1 l2 hv
     have k1 := (Kp.refl wr).alloc (.cells #[.int .i64 (r : Int)] 3)
     have q1 : Below w.heap.size w (wr.alloc (.cells #[.int .i64 (r : Int)] 3)) := hB.trans (Below.mono k1 hB.size)
     have o1 := hO.keep k1
     have m1 := Blk.new wr 3 #[.int .i64 (r : Int)]
     clear hB hO
     go_wp2_with fail
     refine T1.out.mono ?_
     rintro e w2 ⟨rfl, rfl⟩
     clear T1
     go_wp2_with fail
     refine T2.out.mono ?_
     rintro e w3 ⟨rfl, rfl⟩
     clear T2
     go_wp2_with (first
      | (at_builtin; refine wpList_append_my rfl (base := w.heap.size) (e := 3) (size := 1) (bytes := 8) (.tmp 34) (.tmp 37) 66 rfl Tryz.underlying66 HI.out HZ0.out HZ1.out HZ2.out rfl (by decide) (xs := hs.map (Value.int .i64)) (news := [.int .i64 (r : Int)]) rfl (by exact o1) rfl (by exact Blk.src m1 rfl int_one) (by simp only [maxLen]; omega) (by omega) (by exact q1.size) ?_
         intro B1 cb1 w4 hO1 hb1 hk1
         have g1 : Below w.heap.size w w4 := q1.trans hb1
         clear hb1 hk1))
     have hfin : Below w.heap.size w w4 ∧ Own w.heap.size 3 1 w4 B1 (i + 1) cb1 ((hs ++ [(r : Int)]).map (Value.int .i64)) ∧ AddI a b (i + 1) (hs ++ [(r : Int)]) q := by
      refine ⟨g1, ?_, HST.out⟩
      rw [List.map_append]
      exact hO1
     have HF := Lib.hid hfin
     clear hfin g1 hO1 m1 o1 q1 k1
     go_wp2
     go_roundw
     case rel => exact ⟨i + 1, B1, cb1, q, hs ++ [(r : Int)], by have := HME.out; omega, rfl, rfl, by first | rfl | (rw [e9]), HME.out.1, HF.out⟩
     case measure => have := HME.out; simp [intOf]; omega

set_option maxRecDepth 100000 in
set_option maxHeartbeats 4000000 in
theorem sub_ra (A B : Option Addr) (n c m d a b : Nat) (w : World) (h : RA w A n c a) (h' : RA w B m d b) (hn : n ≤ 40000000000) (hab : b ≤ a) :
  Calls Tryz.prog 130 #[.slice A n c, .slice B m d] w (RetF w (a - b)) := by
 have TA := Lib.hid (fun (i : Nat) (W : World) (hW : Below w.heap.size w W) => at_ra A n c a i W (h.below hW))
 have TB := Lib.hid (fun (i : Nat) (W : World) (hW : Below w.heap.size w W) => at_ra B m d b i W (h'.below hW))
 have HA2 := Lib.hid h.lt
 have HAB := Lib.hid hab
 obtain ⟨ii, hii, hz0, hz1, hz2⟩ := info_parts info_int
 have HI := Lib.hid hii
 have HZ0 := Lib.hid hz0
 have HZ1 := Lib.hid hz1
 have HZ2 := Lib.hid hz2
 clear h h' hab hii hz0 hz1 hz2
 go_enter Tryz.func130, Tryz.ntmps130
 go_wp2_with fail
 go_loopw [5, 6, 7] (fun tout tc ti wr => ∃ (i : Nat) (Ah : Option Addr) (ch lt : Nat) (hs : List Int), i ≤ n ∧ tout = .slice Ah i ch ∧ tc = .int .i64 (lt : Int) ∧ ti = .int .i64 (i : Int) ∧ lt ≤ 1 ∧ Hid (Below w.heap.size w wr ∧ Own w.heap.size 3 1 wr Ah i ch (hs.map (Value.int .i64)) ∧ SubI a b i hs lt)) (fun _ _ ti _ => n - (intOf ti).toNat)
 case atStart => exact ⟨0, none, 0, 0, [], by omega, rfl, rfl, rfl, by omega, Below.refl _ _, Own.nil _ _ _ _, SubI.start a b⟩
 case round =>
  obtain ⟨i, Ah, ch, lt, hs, hi, rfl, rfl, rfl, hcy, hR⟩ := hrel
  by_cases h1 : i < n
  ·have d1 : decide ((i : Int) < (n : Int)) = true := decide_eq_true (by omega)
   by_cases hv : dg b i + lt ≤ dg a i
   ·have hv0 := hv
    clear hv0
    have T1 := Lib.hid (TA.out i wr hR.out.1)
    have T2 := Lib.hid (TB.out i wr hR.out.1)
    have HST := Lib.hid (hR.out.2.2.step0 hv)
    have d3 : decide (((dg a i : Nat) : Int) - ((dg b i : Nat) : Int) - (lt : Int) < 0) = false := decide_eq_false (by omega)
    have l1 := dg_lt a i
    have l2 := dg_lt b i
    obtain ⟨hB, hO, -⟩ := hR.out
    generalize dg a i = x at *
    generalize dg b i = y at *
    obtain ⟨z1, hz1⟩ : ∃ z, z = (x : Int) - (y : Int) := ⟨_, rfl⟩
    obtain ⟨z2, hz2⟩ : ∃ z, z = z1 - (lt : Int) := ⟨_, rfl⟩
    obtain ⟨z3, hz3⟩ : ∃ z, z = z2 + 65536 := ⟨_, rfl⟩
    rw [← hz1, ← hz2] at HST d3
    (try rw [← hz3] at HST)
    have e1 : IntKind.i64.wrap ((x : Int) - (y : Int)) = z1 := by rw [← hz1]; exact IntWalk.i64_in _ (by omega)
    have e2 : IntKind.i64.wrap (z1 - (lt : Int)) = z2 := by rw [← hz2]; exact IntWalk.i64_in _ (by omega)
    have e4 : IntKind.i64.wrap (z2 + 65536) = z3 := by rw [← hz3]; exact IntWalk.i64_in _ (by omega)
    have f1 : wrap64 ((x : Int) - (y : Int)) = z1 := by rw [← hz1]; exact w64_in _ (by omega)
    have f2 : wrap64 (z1 - (lt : Int)) = z2 := by rw [← hz2]; exact w64_in _ (by omega)
    have f4 : wrap64 (z2 + 65536) = z3 := by rw [← hz3]; exact w64_in _ (by omega)
    clear hz1 hz2 hz3
    have e9 : IntKind.i64.wrap ((i : Int) + 1) = ((i + 1 : Nat) : Int) := IntWalk.i64_in _ (by omega)
    clear hR l1 l2 hv
    have k1 := (Kp.refl wr).alloc (.cells #[.int .i64 z2] 3)
    have q1 : Below w.heap.size w (wr.alloc (.cells #[.int .i64 z2] 3)) := hB.trans (Below.mono k1 hB.size)
    have o1 := hO.keep k1
    have m1 := Blk.new wr 3 #[.int .i64 z2]
    clear hB hO
    go_wp2_with fail
    refine T1.out.mono ?_
    rintro e w2 ⟨rfl, rfl⟩
    clear T1
    go_wp2_with fail
    refine T2.out.mono ?_
    rintro e w3 ⟨rfl, rfl⟩
    clear T2
    go_wp2_with (first
     | (at_builtin; refine wpList_append_my rfl (base := w.heap.size) (e := 3) (size := 1) (bytes := 8) (.tmp 28) (.tmp 30) 66 rfl Tryz.underlying66 HI.out HZ0.out HZ1.out HZ2.out rfl (by decide) (xs := hs.map (Value.int .i64)) (news := [.int .i64 z2]) rfl (by exact o1) rfl (by exact Blk.src m1 rfl int_one) (by simp only [maxLen]; omega) (by omega) (by exact q1.size) ?_
        intro B1 cb1 w4 hO1 hb1 hk1
        have g1 : Below w.heap.size w w4 := q1.trans hb1
        clear hb1 hk1))
    have hfin : Below w.heap.size w w4 ∧ Own w.heap.size 3 1 w4 B1 (i + 1) cb1 ((hs ++ [z2]).map (Value.int .i64)) ∧ SubI a b (i + 1) (hs ++ [z2]) 0 := by
     refine ⟨g1, ?_, HST.out⟩
     rw [List.map_append]
     exact hO1
    have HF := Lib.hid hfin
    clear hfin g1 hO1 m1 o1 q1 k1
    go_wp2
    go_roundw
    case rel => exact ⟨i + 1, B1, cb1, 0, hs ++ [z2], by omega, rfl, rfl, by first | rfl | (rw [e9]), by omega, HF.out⟩
    case measure => simp [intOf]; omega
   ·have hv0 := hv
    clear hv0
    have T1 := Lib.hid (TA.out i wr hR.out.1)
    have T2 := Lib.hid (TB.out i wr hR.out.1)
    have HST := Lib.hid (hR.out.2.2.step1 (by omega))
    have d3 : decide (((dg a i : Nat) : Int) - ((dg b i : Nat) : Int) - (lt : Int) < 0) = true := decide_eq_true (by omega)
    have l1 := dg_lt a i
    have l2 := dg_lt b i
    obtain ⟨hB, hO, -⟩ := hR.out
    generalize dg a i = x at *
    generalize dg b i = y at *
    obtain ⟨z1, hz1⟩ : ∃ z, z = (x : Int) - (y : Int) := ⟨_, rfl⟩
    obtain ⟨z2, hz2⟩ : ∃ z, z = z1 - (lt : Int) := ⟨_, rfl⟩
    obtain ⟨z3, hz3⟩ : ∃ z, z = z2 + 65536 := ⟨_, rfl⟩
    rw [← hz1, ← hz2] at HST d3
    (try rw [← hz3] at HST)
    have e1 : IntKind.i64.wrap ((x : Int) - (y : Int)) = z1 := by rw [← hz1]; exact IntWalk.i64_in _ (by omega)
    have e2 : IntKind.i64.wrap (z1 - (lt : Int)) = z2 := by rw [← hz2]; exact IntWalk.i64_in _ (by omega)
    have e4 : IntKind.i64.wrap (z2 + 65536) = z3 := by rw [← hz3]; exact IntWalk.i64_in _ (by omega)
    have f1 : wrap64 ((x : Int) - (y : Int)) = z1 := by rw [← hz1]; exact w64_in _ (by omega)
    have f2 : wrap64 (z1 - (lt : Int)) = z2 := by rw [← hz2]; exact w64_in _ (by omega)
    have f4 : wrap64 (z2 + 65536) = z3 := by rw [← hz3]; exact w64_in _ (by omega)
    clear hz1 hz2 hz3
    have e9 : IntKind.i64.wrap ((i : Int) + 1) = ((i + 1 : Nat) : Int) := IntWalk.i64_in _ (by omega)
    clear hR l1 l2 hv
    have k1 := (Kp.refl wr).alloc (.cells #[.int .i64 z3] 3)
    have q1 : Below w.heap.size w (wr.alloc (.cells #[.int .i64 z3] 3)) := hB.trans (Below.mono k1 hB.size)
    have o1 := hO.keep k1
    have m1 := Blk.new wr 3 #[.int .i64 z3]
    clear hB hO
    go_wp2_with fail
    refine T1.out.mono ?_
    rintro e w2 ⟨rfl, rfl⟩
    clear T1
    go_wp2_with fail
    refine T2.out.mono ?_
    rintro e w3 ⟨rfl, rfl⟩
    clear T2
    go_wp2_with (first
     | (at_builtin; refine wpList_append_my rfl (base := w.heap.size) (e := 3) (size := 1) (bytes := 8) (.tmp 28) (.tmp 30) 66 rfl Tryz.underlying66 HI.out HZ0.out HZ1.out HZ2.out rfl (by decide) (xs := hs.map (Value.int .i64)) (news := [.int .i64 z3]) rfl (by exact o1) rfl (by exact Blk.src m1 rfl int_one) (by simp only [maxLen]; omega) (by omega) (by exact q1.size) ?_
        intro B1 cb1 w4 hO1 hb1 hk1
        have g1 : Below w.heap.size w w4 := q1.trans hb1
        clear hb1 hk1))
    have hfin : Below w.heap.size w w4 ∧ Own w.heap.size 3 1 w4 B1 (i + 1) cb1 ((hs ++ [z3]).map (Value.int .i64)) ∧ SubI a b (i + 1) (hs ++ [z3]) 1 := by
     refine ⟨g1, ?_, HST.out⟩
     rw [List.map_append]
     exact hO1
    have HF := Lib.hid hfin
    clear hfin g1 hO1 m1 o1 q1 k1
    go_wp2
    go_roundw
    case rel => exact ⟨i + 1, B1, cb1, 1, hs ++ [z3], by omega, rfl, rfl, by first | rfl | (rw [e9]), by omega, HF.out⟩
    case measure => simp [intOf]; omega
  ·obtain rfl : i = n := by omega
   obtain ⟨hB, hO, hI⟩ := hR.out
   have hv := hI.done HA2.out HAB.out
   have hra := hO.ra hI.2.1
   rw [hv] at hra
   have hfr : i ≠ 0 → ∃ g, Ah = some ⟨g, 0, none⟩ ∧ w.heap.size ≤ g := fun hi0 => by
    obtain ⟨g, cap, hv9, hb9, _⟩ := World.ownsRow.form hO (Nat.pos_of_ne_zero hi0)
    simp at hv9
    exact ⟨g, hv9.1, hb9⟩
   have HFR := Lib.hid hfr
   clear hfr
   have HT := Lib.hid (trim_at Ah i ch (a - b) wr hra (by omega))
   have HLE := Lib.hid (show (hd (a - b)).length ≤ i from hd_len_le.2 (Nat.lt_of_le_of_lt (Nat.sub_le _ _) HA2.out))
   have HB := Lib.hid hB
   clear hR hB hO hI hv hra TA TB
   go_wp2_with fail
   refine HT.out.mono ?_
   rintro e w1 ⟨A1, n1, rfl, hI, rfl, hAA⟩
   have HAA := Lib.hid (show n1 ≠ 0 → ∃ b o, A1 = some ⟨b, o, none⟩ ∧ w.heap.size ≤ b from fun h1 => by
    have hle : i ≠ 0 := fun h0 => h1 (by have h2 := HLE.out; have h3 := hI.1; omega)
    obtain ⟨g, hg1, hg2⟩ := HFR.out hle
    exact ⟨g, 0, hAA g 0 hg1, hg2⟩)
   clear hAA
   have HI2 := Lib.hid hI
   clear hI HT
   go_wp2
   go_ret
   exact ⟨A1, n1, ch, rfl, HI2.out, HB.out, HAA.out⟩

set_option maxRecDepth 100000 in
set_option maxHeartbeats 4000000 in
theorem times_ra (A : Option Addr) (n c a N : Nat) (w : World) (h : RA w A n c a) (hn : n ≤ 40000000000) (hN : N ≤ 65536) :
  Calls Tryz.prog 157 #[.slice A n c, .int .i64 (N : Int)] w (RetH w (a * N)) := by
 have TA := Lib.hid (fun (i : Nat) (W : World) (hW : Below w.heap.size w W) => at_ra A n c a i W (h.below hW))
 have HA2 := Lib.hid h.lt
 obtain ⟨ii, hii, hz0, hz1, hz2⟩ := info_parts info_int
 have HI := Lib.hid hii
 have HZ0 := Lib.hid hz0
 have HZ1 := Lib.hid hz1
 have HZ2 := Lib.hid hz2
 clear h hii hz0 hz1 hz2
 go_enter Tryz.func157, Tryz.ntmps157
 go_wp2_with fail
 go_loopw [5, 6, 7] (fun tout tc ti wr => ∃ (i : Nat) (Ah : Option Addr) (ch cy : Nat) (hs : List Int), i + min 1 cy ≤ n + 1 ∧ tout = .slice Ah i ch ∧ tc = .int .i64 (cy : Int) ∧ ti = .int .i64 (i : Int) ∧ Hid (Below w.heap.size w wr ∧ Own w.heap.size 3 1 wr Ah i ch (hs.map (Value.int .i64)) ∧ TimI a N i hs cy)) (fun _ tc ti _ => 2 * (n - (intOf ti).toNat) + min 1 (intOf tc).toNat)
 case atStart => exact ⟨0, none, 0, 0, [], by omega, rfl, rfl, rfl, Below.refl _ _, Own.nil _ _ _ _, TimI.start a N⟩
 case round =>
  obtain ⟨i, Ah, ch, cy, hs, hi, rfl, rfl, rfl, hR⟩ := hrel
  by_cases h1 : i < n
  ·have d1 : decide ((i : Int) < (n : Int)) = true := decide_eq_true (by omega)
   have l1 := dg_mul_le a i hN
   have T1 := Lib.hid (TA.out i wr hR.out.1)
   have hst := hR.out.2.2.step hN
   have hc4 := hR.out.2.2.2.2.2
   have hme : (dg a i * N + cy) / 65536 < 65536 ∧ i + 1 + min 1 ((dg a i * N + cy) / 65536) ≤ n + 1 ∧ 2 * (n - (i + 1)) + min 1 ((dg a i * N + cy) / 65536) < 2 * (n - i) + min 1 cy := by
    by_cases hi : i < n
    ·omega
    ·have z1 : dg a i = 0 := dg_over (lt_pow_le HA2.out (by omega))
     rw [z1, Nat.zero_mul]
     omega
   obtain ⟨hB, hO, -⟩ := hR.out
   generalize dg a i = x at *
   have e1 : IntKind.i64.wrap ((x : Int) * (N : Int)) = ((x * N : Nat) : Int) := IntWalk.i64_in _ (by rw [← Int.natCast_mul]; omega)
   generalize x * N = p at *
   have e2 : IntKind.i64.wrap ((p : Int) + (cy : Int)) = ((p + cy : Nat) : Int) := IntWalk.i64_in _ (by omega)
   have hv : p + cy ≤ 4294967296 := by omega
   generalize p + cy = v at *
   have e3 := tmod_dg v
   have e4 := tdiv_dg v
   have e5 : (v : Int) % 65536 = ((v % 65536 : Nat) : Int) := by simp
   have e6 : (v : Int) / 65536 = ((v / 65536 : Nat) : Int) := by simp
   have e7 : IntKind.i64.wrap ((v % 65536 : Nat) : Int) = ((v % 65536 : Nat) : Int) := IntWalk.i64_in _ (by omega)
   have e8 : IntKind.i64.wrap ((v / 65536 : Nat) : Int) = ((v / 65536 : Nat) : Int) := IntWalk.i64_in _ (by omega)
   generalize v % 65536 = r at *
   generalize v / 65536 = q at *
   have e9 : IntKind.i64.wrap ((i : Int) + 1) = ((i + 1 : Nat) : Int) := IntWalk.i64_in _ (by omega)
   have HST := Lib.hid hst
   have HME := Lib.hid hme
   clear hst hme hR l1 hv
   have k1 := (Kp.refl wr).alloc (.cells #[.int .i64 (r : Int)] 3)
   have q1 : Below w.heap.size w (wr.alloc (.cells #[.int .i64 (r : Int)] 3)) := hB.trans (Below.mono k1 hB.size)
   have o1 := hO.keep k1
   have m1 := Blk.new wr 3 #[.int .i64 (r : Int)]
   clear hB hO
   go_wp2_with fail
   refine T1.out.mono ?_
   rintro e w2 ⟨rfl, rfl⟩
   clear T1
   go_wp2_with (first
    | (at_builtin; refine wpList_append_my rfl (base := w.heap.size) (e := 3) (size := 1) (bytes := 8) (.tmp 26) (.tmp 29) 66 rfl Tryz.underlying66 HI.out HZ0.out HZ1.out HZ2.out rfl (by decide) (xs := hs.map (Value.int .i64)) (news := [.int .i64 (r : Int)]) rfl (by exact o1) rfl (by exact Blk.src m1 rfl int_one) (by simp only [maxLen]; omega) (by omega) (by exact q1.size) ?_
       intro B1 cb1 w4 hO1 hb1 hk1
       have g1 : Below w.heap.size w w4 := q1.trans hb1
       clear hb1 hk1))
   have hfin : Below w.heap.size w w4 ∧ Own w.heap.size 3 1 w4 B1 (i + 1) cb1 ((hs ++ [(r : Int)]).map (Value.int .i64)) ∧ TimI a N (i + 1) (hs ++ [(r : Int)]) q := by
    refine ⟨g1, ?_, HST.out⟩
    rw [List.map_append]
    exact hO1
   have HF := Lib.hid hfin
   clear hfin g1 hO1 m1 o1 q1 k1
   go_wp2
   go_roundw
   case rel => exact ⟨i + 1, B1, cb1, q, hs ++ [(r : Int)], by have := HME.out; omega, rfl, rfl, by first | rfl | (rw [e9]), HF.out⟩
   case measure => have := HME.out; simp [intOf]; omega
  ·have d1 : decide ((i : Int) < (n : Int)) = false := decide_eq_false (by omega)
   by_cases h3 : cy = 0
   ·subst h3
    obtain ⟨hB, hO, hI⟩ := hR.out
    have hv := hI.done (lt_pow_le HA2.out (by omega))
    have hra := hO.ra hI.2.1
    rw [hv] at hra
    have HT := Lib.hid (trim_ra Ah i ch (a * N) wr hra (by omega))
    have HB := Lib.hid hB
    clear hR hB hO hI hv hra TA
    go_wp2_with fail
    refine HT.out.mono ?_
    rintro e w1 ⟨A1, n1, rfl, hI, rfl⟩
    have HI2 := Lib.hid hI
    clear hI HT
    go_wp2
    go_ret
    exact ⟨A1, n1, ch, rfl, HI2.out, HB.out⟩
   ·have d2 : decide ((0 : Int) < (cy : Int)) = true := decide_eq_true (by omega)
    have l1 := dg_mul_le a i hN
    have T1 := Lib.hid (TA.out i wr hR.out.1)
    have hst := hR.out.2.2.step hN
    have hc4 := hR.out.2.2.2.2.2
    have hme : (dg a i * N + cy) / 65536 < 65536 ∧ i + 1 + min 1 ((dg a i * N + cy) / 65536) ≤ n + 1 ∧ 2 * (n - (i + 1)) + min 1 ((dg a i * N + cy) / 65536) < 2 * (n - i) + min 1 cy := by
     by_cases hi : i < n
     ·omega
     ·have z1 : dg a i = 0 := dg_over (lt_pow_le HA2.out (by omega))
      rw [z1, Nat.zero_mul]
      omega
    obtain ⟨hB, hO, -⟩ := hR.out
    generalize dg a i = x at *
    have e1 : IntKind.i64.wrap ((x : Int) * (N : Int)) = ((x * N : Nat) : Int) := IntWalk.i64_in _ (by rw [← Int.natCast_mul]; omega)
    generalize x * N = p at *
    have e2 : IntKind.i64.wrap ((p : Int) + (cy : Int)) = ((p + cy : Nat) : Int) := IntWalk.i64_in _ (by omega)
    have hv : p + cy ≤ 4294967296 := by omega
    generalize p + cy = v at *
    have e3 := tmod_dg v
    have e4 := tdiv_dg v
    have e5 : (v : Int) % 65536 = ((v % 65536 : Nat) : Int) := by simp
    have e6 : (v : Int) / 65536 = ((v / 65536 : Nat) : Int) := by simp
    have e7 : IntKind.i64.wrap ((v % 65536 : Nat) : Int) = ((v % 65536 : Nat) : Int) := IntWalk.i64_in _ (by omega)
    have e8 : IntKind.i64.wrap ((v / 65536 : Nat) : Int) = ((v / 65536 : Nat) : Int) := IntWalk.i64_in _ (by omega)
    generalize v % 65536 = r at *
    generalize v / 65536 = q at *
    have e9 : IntKind.i64.wrap ((i : Int) + 1) = ((i + 1 : Nat) : Int) := IntWalk.i64_in _ (by omega)
    have HST := Lib.hid hst
    have HME := Lib.hid hme
    clear hst hme hR l1 hv
    have k1 := (Kp.refl wr).alloc (.cells #[.int .i64 (r : Int)] 3)
    have q1 : Below w.heap.size w (wr.alloc (.cells #[.int .i64 (r : Int)] 3)) := hB.trans (Below.mono k1 hB.size)
    have o1 := hO.keep k1
    have m1 := Blk.new wr 3 #[.int .i64 (r : Int)]
    clear hB hO
    go_wp2_with fail
    refine T1.out.mono ?_
    rintro e w2 ⟨rfl, rfl⟩
    clear T1
    go_wp2_with (first
     | (at_builtin; refine wpList_append_my rfl (base := w.heap.size) (e := 3) (size := 1) (bytes := 8) (.tmp 26) (.tmp 29) 66 rfl Tryz.underlying66 HI.out HZ0.out HZ1.out HZ2.out rfl (by decide) (xs := hs.map (Value.int .i64)) (news := [.int .i64 (r : Int)]) rfl (by exact o1) rfl (by exact Blk.src m1 rfl int_one) (by simp only [maxLen]; omega) (by omega) (by exact q1.size) ?_
        intro B1 cb1 w4 hO1 hb1 hk1
        have g1 : Below w.heap.size w w4 := q1.trans hb1
        clear hb1 hk1))
    have hfin : Below w.heap.size w w4 ∧ Own w.heap.size 3 1 w4 B1 (i + 1) cb1 ((hs ++ [(r : Int)]).map (Value.int .i64)) ∧ TimI a N (i + 1) (hs ++ [(r : Int)]) q := by
     refine ⟨g1, ?_, HST.out⟩
     rw [List.map_append]
     exact hO1
    have HF := Lib.hid hfin
    clear hfin g1 hO1 m1 o1 q1 k1
    go_wp2
    go_roundw
    case rel => exact ⟨i + 1, B1, cb1, q, hs ++ [(r : Int)], by have := HME.out; omega, rfl, rfl, by first | rfl | (rw [e9]), HF.out⟩
    case measure => have := HME.out; simp [intOf]; omega

end Go.Proofs.YtodkhjihkkmplaaGreat
