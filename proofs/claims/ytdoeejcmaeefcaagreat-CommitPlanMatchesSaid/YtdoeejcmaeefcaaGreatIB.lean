/-
The examples of package commit by value. plans and none of the statements on package commit. awake of the statements on package commit. No statement of the seat is proved here; no conditions beyond those of each theorem.
-/
import Derived.Test.YtdoeejcmaeefcaaGreatJCa3
import Derived.Test.YtdoeejcmaeefcaaGreatIA
import Derived.Test.YtdoeejcmaeefcaaGreatHU
namespace Go.Proofs.YtdoeejcmaeefcaaGreat
set_option linter.unusedVariables false
set_option linter.unusedSimpArgs false
open Go.RowKit
open Wd
open Cm

theorem cex_ok : ∀ u ∈ cexU, uchk u = 0 := by decide
theorem cex_lc {bs : List Bool} {f z : Int} {xs : List Int} (he : aerr cexU bs 2 f = 0) (hO : En.Opt (pus cexU bs) f xs) (hz : En.costR (pus cexU bs) xs = z) : lcV cexU bs 2 f = z := by
  unfold lcV
  rw [if_pos he, optR_eq cex_ok hO]
  exact hz
theorem cex_yes {h : Hr} {bs : List Bool} {f z : Int} {xs : List Int} (hf : firm h = f) (hn : h.need = 0) (h1 : rmin (cexU.zip bs) ≤ f ∧ f ≤ rmax (cexU.zip bs)) (he : aerr cexU bs 2 f = 0) (hO : En.Opt (pus cexU bs) f xs) (hz : En.costR (pus cexU bs) xs = z) : supH cexU h bs = some z := by
  unfold supH
  rw [hf, hn, if_pos (by omega)]
  exact congrArg some (cex_lc he hO hz)
theorem cex_no {h : Hr} {bs : List Bool} {f : Int} (hf : firm h = f) (hn : h.need = 0) (h1 : ¬ (rmin (cexU.zip bs) ≤ f ∧ f ≤ rmax (cexU.zip bs))) : supH cexU h bs = none := by
  unfold supH
  rw [hf, hn, if_neg (by omega)]
def fh (x : Int) : Hr := ⟨[(0, [(x, 1000000), (9, 50)])], 0⟩
theorem fh3 : firm (fh 3) = 3 := by decide
theorem fh8 : firm (fh 8) = 8 := by decide
theorem fh1 : firm (fh 1) = 1 := by decide
theorem fh20 : firm (fh 20) = 20 := by decide
theorem bits4 : (List.range (2 ^ cexU.length)).map (bitsN cexU.length) = [[false, false], [false, true], [true, false], [true, true]] := by decide
theorem rowOf_bits (h : Hr) : rowOf cexU h = [supH cexU h [false, false], supH cexU h [false, true], supH cexU h [true, false], supH cexU h [true, true]] := by
  have e : rowOf cexU h = ((List.range (2 ^ cexU.length)).map (bitsN cexU.length)).map (supH cexU h) := by
    unfold rowOf
    rw [List.map_map]
    rfl
  rw [e, bits4]
  rfl
theorem row3 : rowOf cexU (fh 3) = [none, some 12, some 3, some 3] := by
  rw [rowOf_bits, cex_no fh3 rfl (by decide), cex_yes (bs := [false, true]) (xs := [0, 3]) (z := 12) fh3 rfl (by decide) (by decide) ⟨rfl, 4, 1, by simp [En.Thr, pus, cexU, En.PU.lo, En.PU.hi, En.qle]; omega⟩ (by decide),
    cex_yes (bs := [true, false]) (xs := [3, 0]) (z := 3) fh3 rfl (by decide) (by decide) ⟨rfl, 1, 0, by simp [En.Thr, pus, cexU, En.PU.lo, En.PU.hi, En.qle]; omega⟩ (by decide),
    cex_yes (bs := [true, true]) (xs := [3, 0]) (z := 3) fh3 rfl (by decide) (by decide) ⟨rfl, 1, 0, by simp [En.Thr, pus, cexU, En.PU.lo, En.PU.hi, En.qle]; omega⟩ (by decide)]
theorem row8 : rowOf cexU (fh 8) = [none, none, some 14, some 14] := by
  rw [rowOf_bits, cex_no fh8 rfl (by decide), cex_no (bs := [false, true]) fh8 rfl (by decide),
    cex_yes (bs := [true, false]) (xs := [8, 0]) (z := 14) fh8 rfl (by decide) (by decide) ⟨rfl, 3, 0, by simp [En.Thr, pus, cexU, En.PU.lo, En.PU.hi, En.qle]; omega⟩ (by decide),
    cex_yes (bs := [true, true]) (xs := [8, 0]) (z := 14) fh8 rfl (by decide) (by decide) ⟨rfl, 3, 0, by simp [En.Thr, pus, cexU, En.PU.lo, En.PU.hi, En.qle]; omega⟩ (by decide)]
theorem row1 : rowOf cexU (fh 1) = [none, some 4, none, none] := by
  rw [rowOf_bits, cex_no fh1 rfl (by decide), cex_yes (bs := [false, true]) (xs := [0, 1]) (z := 4) fh1 rfl (by decide) (by decide) ⟨rfl, 4, 1, by simp [En.Thr, pus, cexU, En.PU.lo, En.PU.hi, En.qle]; omega⟩ (by decide),
    cex_no (bs := [true, false]) fh1 rfl (by decide), cex_no (bs := [true, true]) fh1 rfl (by decide)]
theorem row20 : rowOf cexU (fh 20) = [none, none, none, none] := by
  rw [rowOf_bits, cex_no fh20 rfl (by decide), cex_no (bs := [false, true]) fh20 rfl (by decide), cex_no (bs := [true, false]) fh20 rfl (by decide), cex_no (bs := [true, true]) fh20 rfl (by decide)]
theorem rows381 : rowsOf cexU (firmH [3, 8, 1]) = [[none, some 12, some 3, some 3], [none, none, some 14, some 14], [none, some 4, none, none]] := by
  show [rowOf cexU (fh 3), rowOf cexU (fh 8), rowOf cexU (fh 1)] = _
  rw [row3, row8, row1]
theorem rows3 : rowsOf cexU (firmH [3]) = [[none, some 12, some 3, some 3]] := by
  show [rowOf cexU (fh 3)] = _
  rw [row3]
theorem rows20 : rowsOf cexU (firmH [20]) = [[none, none, none, none]] := by
  show [rowOf cexU (fh 20)] = _
  rw [row20]
theorem best381 : bestV cexU (firmH [3, 8, 1]) = some (3, 32) := by
  unfold bestV
  rw [rows381]
  decide +kernel
theorem best3 : bestV cexU (firmH [3]) = some (2, 11) := by
  unfold bestV
  rw [rows3]
  decide +kernel
theorem best20 : bestV cexU (firmH [20]) = none := by
  unfold bestV
  rw [rows20]
  decide +kernel
theorem plan381 : planB cexU (firmH [3, 8, 1]) = [[true, true], [true, true], [false, true]] := by
  unfold planB planC
  rw [rows381]
  decide +kernel
theorem plan3 : planB cexU (firmH [3]) = [[true, false]] := by
  unfold planB planC
  rw [rows3]
  decide +kernel
theorem chk381 : cchk cexU (firmH [3, 8, 1]) = 0 := by decide
theorem chk3 : cchk cexU (firmH [3]) = 0 := by decide
theorem chk20 : cchk cexU (firmH [20]) = 0 := by decide
theorem chk0 : cchk cexU [] = 4 := by decide
theorem firmH_ok (l : List Int) : HsOk (firmH l) := by
  intro h hh
  obtain ⟨x, _, rfl⟩ := List.mem_map.1 hh
  refine ⟨by simp, fun b hb => ?_⟩
  simp at hb
  subst hb
  simp

end Go.Proofs.YtdoeejcmaeefcaaGreat

namespace Go.Proofs.YtdoeejcmaeefcaaGreat
set_option linter.unusedVariables false
set_option linter.unusedSimpArgs false
open Go.RowKit
open Wd
open Cm

theorem planB_ok {us : List Un} {hs : List Hr} {c : Nat} {v : Int} (h : bestV us hs = some (c, v)) (hn : us.length ≤ 1000000000000) : PlOk (planB us hs) := fun r hr => by
  rw [(planB_shape h).2.1 r hr]
  exact hn
theorem costV_plan {us : List Un} {hs : List Hr} {c : Nat} {v : Int} (hc : cchk us hs = 0) (h : bestV us hs = some (c, v)) : costV us hs (planB us hs) = (v, 0) := by
  obtain ⟨p1, p2, _, p4⟩ := planB_shape h
  exact costV_of hc p1 p2 p4

set_option maxRecDepth 100000 in
set_option maxHeartbeats 2000000 in
theorem plans_yes (A B C : Option Addr) (n c m d p q : Nat) (us : List Un) (hs : List Hr) (pl : List (List Bool)) (z : Int) (w : World) (h : UsAt w A n us) (h' : HsAt w B m hs) (hp : PlAt w C p pl) (ho : HsOk hs) (hpo : PlOk pl) (hm : n ≤ 1000000000000) (hm' : m ≤ 1000000000000) (hpm : p ≤ 1000000000000) (hc : cchk us hs = 0) (hb : ∃ c, bestV us hs = some (c, z)) (hpl : planB us hs = pl) :
    Calls Tryz.prog 26 #[.slice A n c, .slice B m d, .int .i64 z, .slice C p q] w fun e w' => e = .returned (.bool true) ∧ Below w.heap.size w w' := by
  have HU := Lib.hid h
  have HH := Lib.hid h'
  have HP := Lib.hid hp
  have T1 := Lib.hid (plan_raw A B n c m d us hs w h h' ho hm hm')
  have hcv : costV us hs pl = (z, 0) := by
    obtain ⟨c, hb⟩ := hb
    rw [← hpl]
    exact costV_plan hc hb
  have T2 := Lib.hid (fun (W : World) (hk : Kp w W) => (show Calls Tryz.prog 13 #[.slice A n c, .slice B m d, .slice C p q] W fun e w' => e = .returned (.tuple #[.int .i64 z, .int .i64 0]) ∧ Below W.heap.size W w' from by
    have := ccost_raw A B C n c m d p q us hs pl W (HU.out.below hk) (HH.out.below hk) (HP.out.below hk) ho hm hm'
    rw [hcv] at this
    exact this))
  have T3 := Lib.hid (fun (g : Nat) (W : World) (hg : PlAt W (some ⟨g, 0, none⟩) m (planB us hs)) (hk : Kp w W) => (show Calls Tryz.prog 15 #[.slice (some ⟨g, 0, none⟩) m m, .slice C p q] W fun e w' => e = .returned (.bool true) ∧ Below W.heap.size W w' from by
    obtain ⟨c, hb⟩ := hb
    have := sameAll_any (some ⟨g, 0, none⟩) C m m p q (planB us hs) pl W hg (HP.out.below hk) (planB_ok hb (by rw [HU.out.1]; exact hm)) hpo hm' hpm
    rw [decide_eq_true hpl] at this
    exact this))
  have HC := Lib.hid hc
  have HB := Lib.hid hb
  have HML := Lib.hid h'.1
  have hz : (z == z) = true := by simp
  clear h h' hp ho hpo hc hb hpl hcv
  go_enter Tryz.func26, Tryz.ntmps26
  go_wp2_with fail
  refine T1.out.mono ?_
  rintro e w1 ⟨hb1, h1⟩
  rcases h1 with ⟨h1, _⟩ | ⟨_, h1, _⟩ | ⟨_, _, g, he, hown⟩
  · exact absurd HC.out h1
  · obtain ⟨c, hb⟩ := HB.out
    rw [h1] at hb
    simp at hb
  · rw [HML.out] at he
    subst he
    have HG := Lib.hid (hown.at (show (planB us hs).length = m by obtain ⟨c, hb⟩ := HB.out; rw [(planB_shape hb).1]; exact HML.out))
    have HB1 := Lib.hid hb1
    clear hown hb1 T1
    go_wp2_with fail
    refine (T2.out w1 HB1.out).mono ?_
    rintro e w2 ⟨rfl, hb2⟩
    have HB2 := Lib.hid (And.intro hb2 (Kp.trans (show Kp w w1 from HB1.out) hb2))
    clear hb2 T2
    go_wp2_with fail
    refine (T3.out g w2 (HG.out.below HB2.out.1) HB2.out.2).mono ?_
    rintro e w3 ⟨rfl, hb3⟩
    have HF := Lib.hid (show Below w.heap.size w w3 from Kp.trans HB2.out.2 hb3)
    clear hb3 T3
    go_wp2
    go_ret
    exact ⟨rfl, HF.out⟩

set_option maxRecDepth 100000 in
set_option maxHeartbeats 2000000 in
theorem none_yes (A B : Option Addr) (n c m d : Nat) (us : List Un) (hs : List Hr) (w : World) (h : UsAt w A n us) (h' : HsAt w B m hs) (ho : HsOk hs) (hm : n ≤ 1000000000000) (hm' : m ≤ 1000000000000) (hc : cchk us hs = 0) (hb : bestV us hs = none) :
    Calls Tryz.prog 29 #[.slice A n c, .slice B m d, .int .i64 8] w fun e w' => e = .returned (.bool true) ∧ Below w.heap.size w w' := by
  have HU := Lib.hid h
  have HH := Lib.hid h'
  have T1 := Lib.hid (plan_raw A B n c m d us hs w h h' ho hm hm')
  have hcv : costV us hs [] = (0, 3) := costV_len hc (by have := (cchk_ok.1 hc).2.2.1; simp only [List.length_nil]; omega)
  have T2 := Lib.hid (fun (W : World) (hk : Kp w W) => (show Calls Tryz.prog 13 #[.slice A n c, .slice B m d, .slice none 0 0] W fun e w' => e = .returned (.tuple #[.int .i64 0, .int .i64 3]) ∧ Below W.heap.size W w' from by
    have := ccost_raw A B none n c m d 0 0 us hs [] W (HU.out.below hk) (HH.out.below hk) ⟨rfl, fun h => absurd rfl h⟩ ho hm hm'
    rw [hcv] at this
    exact this))
  have HC := Lib.hid hc
  have HB := Lib.hid hb
  clear h h' ho hc hb hcv
  go_enter Tryz.func29, Tryz.ntmps29
  go_wp2_with fail
  refine T1.out.mono ?_
  rintro e w1 ⟨hb1, h1⟩
  rcases h1 with ⟨h1, _⟩ | ⟨_, _, he⟩ | ⟨_, ⟨c, v, h1⟩, _⟩
  · exact absurd HC.out h1
  · subst he
    have HB1 := Lib.hid hb1
    clear hb1 T1
    go_wp2_with fail
    refine (T2.out w1 HB1.out).mono ?_
    rintro e w2 ⟨rfl, hb2⟩
    have HB2 := Lib.hid (show Below w.heap.size w w2 from Kp.trans (show Kp w w1 from HB1.out) hb2)
    clear hb2 T2
    go_wp2
    go_ret
    exact ⟨rfl, HB2.out⟩
  · rw [HB.out] at h1
    simp at h1

end Go.Proofs.YtdoeejcmaeefcaaGreat

namespace Go.Proofs.YtdoeejcmaeefcaaGreat
set_option linter.unusedVariables false
set_option linter.unusedSimpArgs false
open Go.RowKit
open Wd
open Cm

theorem IsAt.new1 {w : World} {g : Nat} {t : TypeId} {a : Int} (h : Blk w g t #[.int .i64 a]) : IsAt w (some ⟨g, 0, none⟩) 1 [a] :=
  ⟨rfl, fun _ => ⟨g, 0, rfl, h.lt, fun j hj => by
    match j, hj with
    | 0, _ => exact h.cell 0⟩⟩
theorem IsAt.new3 {w : World} {g : Nat} {t : TypeId} {a b c : Int} (h : Blk w g t #[.int .i64 a, .int .i64 b, .int .i64 c]) : IsAt w (some ⟨g, 0, none⟩) 3 [a, b, c] :=
  ⟨rfl, fun _ => ⟨g, 0, rfl, h.lt, fun j hj => by
    match j, hj with
    | 0, _ => exact h.cell 0
    | 1, _ => exact h.cell 1
    | 2, _ => exact h.cell 2⟩⟩
theorem PlAt.new1 {w : World} {g a : Nat} {t : TypeId} {x : List Bool} (h : Blk w g t #[.slice (some ⟨a, 0, none⟩) 2 2]) (hx : BsAt w (some ⟨a, 0, none⟩) 2 x) : PlAt w (some ⟨g, 0, none⟩) 1 [x] :=
  ⟨rfl, fun _ => ⟨g, 0, rfl, h.lt, fun j hj => by
    match j, hj with
    | 0, _ => exact ⟨_, 2, 2, h.cell 0, hx⟩⟩⟩
theorem PlAt.new3 {w : World} {g a b c : Nat} {t : TypeId} {x y z : List Bool} (h : Blk w g t #[.slice (some ⟨a, 0, none⟩) 2 2, .slice (some ⟨b, 0, none⟩) 2 2, .slice (some ⟨c, 0, none⟩) 2 2]) (hx : BsAt w (some ⟨a, 0, none⟩) 2 x) (hy : BsAt w (some ⟨b, 0, none⟩) 2 y) (hz : BsAt w (some ⟨c, 0, none⟩) 2 z) : PlAt w (some ⟨g, 0, none⟩) 3 [x, y, z] :=
  ⟨rfl, fun _ => ⟨g, 0, rfl, h.lt, fun j hj => by
    match j, hj with
    | 0, _ => exact ⟨_, 2, 2, h.cell 0, hx⟩
    | 1, _ => exact ⟨_, 2, 2, h.cell 1, hy⟩
    | 2, _ => exact ⟨_, 2, 2, h.cell 2, hz⟩⟩⟩

set_option maxRecDepth 100000 in
set_option maxHeartbeats 8000000 in
theorem awake29_any (w : World) : Calls Tryz.prog 11 #[] w fun e w' => e = .returned (.bool true) ∧ Below w.heap.size w w' := by
  have HEX := Lib.hid (ex29_any w)
  go_enter Tryz.func11, Tryz.ntmps11
  go_wp2_with fail
  refine HEX.out.mono ?_
  rintro e w1 ⟨g, rfl, hU, hb1⟩
  have HU := Lib.hid hU
  have HK1 := Lib.hid (show Kp w1 w1 from Kp.refl w1)
  have HB1 := Lib.hid (show Kp w w1 from hb1)
  clear HEX hU hb1
  have k2 := HK1.out.alloc (.cells #[.int .i64 3, .int .i64 8, .int .i64 1] 2)
  have HT := Lib.hid (firm29_any (some ⟨w1.heap.size, 0, none⟩) 3 3 [3, 8, 1] (w1.alloc (.cells #[.int .i64 3, .int .i64 8, .int .i64 1] 2)) (IsAt.new3 (Blk.new w1 2 #[.int .i64 3, .int .i64 8, .int .i64 1])) (by omega) (by intro x hx; simp at hx; unfold Fits; omega))
  have HKA := Lib.hid k2
  clear k2
  go_wp2_with fail
  refine HT.out.mono ?_
  rintro e w2 ⟨B1, cb1, rfl, hH, hb⟩
  have HH1 := Lib.hid hH
  have HK2 := Lib.hid (Kp.trans HKA.out hb)
  clear HT HKA hH hb
  have k3 := ((((HK2.out.alloc (.cells #[.bool true, .bool true] 4)).alloc (.cells #[.bool true, .bool true] 4)).alloc (.cells #[.bool false, .bool true] 4)).alloc (.cells #[.slice (some ⟨w2.heap.size, 0, none⟩) 2 2, .slice (some ⟨w2.heap.size + 1, 0, none⟩) 2 2, .slice (some ⟨w2.heap.size + 1 + 1, 0, none⟩) 2 2] 35))
  have r0 := BsAt.new2 ((((Blk.new w2 4 #[.bool true, .bool true]).alloc (.cells #[.bool true, .bool true] 4)).alloc (.cells #[.bool false, .bool true] 4)).alloc (.cells #[.slice (some ⟨w2.heap.size, 0, none⟩) 2 2, .slice (some ⟨w2.heap.size + 1, 0, none⟩) 2 2, .slice (some ⟨w2.heap.size + 1 + 1, 0, none⟩) 2 2] 35))
  have r1 := BsAt.new2 (((Blk.new1 w2 (.cells #[.bool true, .bool true] 4) 4 #[.bool true, .bool true]).alloc (.cells #[.bool false, .bool true] 4)).alloc (.cells #[.slice (some ⟨w2.heap.size, 0, none⟩) 2 2, .slice (some ⟨w2.heap.size + 1, 0, none⟩) 2 2, .slice (some ⟨w2.heap.size + 1 + 1, 0, none⟩) 2 2] 35))
  have r2 := BsAt.new2 ((Blk.new2 w2 (.cells #[.bool true, .bool true] 4) (.cells #[.bool true, .bool true] 4) 4 #[.bool false, .bool true]).alloc (.cells #[.slice (some ⟨w2.heap.size, 0, none⟩) 2 2, .slice (some ⟨w2.heap.size + 1, 0, none⟩) 2 2, .slice (some ⟨w2.heap.size + 1 + 1, 0, none⟩) 2 2] 35))
  have rp := Blk.new3 w2 (.cells #[.bool true, .bool true] 4) (.cells #[.bool true, .bool true] 4) (.cells #[.bool false, .bool true] 4) 35 #[.slice (some ⟨w2.heap.size, 0, none⟩) 2 2, .slice (some ⟨w2.heap.size + 1, 0, none⟩) 2 2, .slice (some ⟨w2.heap.size + 1 + 1, 0, none⟩) 2 2]
  have hkh : Kp w2 w2 := Kp.refl _
  have HT := Lib.hid (plans_yes (some ⟨g, 0, none⟩) B1 (some ⟨w2.heap.size + 1 + 1 + 1, 0, none⟩) 2 2 3 cb1 3 3 cexU (firmH [3, 8, 1]) [[true, true], [true, true], [false, true]] 32 ((((w2.alloc (.cells #[.bool true, .bool true] 4)).alloc (.cells #[.bool true, .bool true] 4)).alloc (.cells #[.bool false, .bool true] 4)).alloc (.cells #[.slice (some ⟨w2.heap.size, 0, none⟩) 2 2, .slice (some ⟨w2.heap.size + 1, 0, none⟩) 2 2, .slice (some ⟨w2.heap.size + 1 + 1, 0, none⟩) 2 2] 35)) (HU.out.below k3) (HH1.out.below (Kp.trans hkh ((((((Kp.refl w2).alloc (.cells #[.bool true, .bool true] 4)).alloc (.cells #[.bool true, .bool true] 4)).alloc (.cells #[.bool false, .bool true] 4)).alloc (.cells #[.slice (some ⟨w2.heap.size, 0, none⟩) 2 2, .slice (some ⟨w2.heap.size + 1, 0, none⟩) 2 2, .slice (some ⟨w2.heap.size + 1 + 1, 0, none⟩) 2 2] 35))))) (PlAt.new3 rp r0 r1 r2) (firmH_ok _) (by intro r hr; simp at hr; rcases hr with rfl | rfl | rfl <;> simp) (by omega) (by omega) (by omega) chk381 ⟨_, best381⟩ plan381)
  have HKA := Lib.hid k3
  clear k3 hkh rp r0 r1 r2
  go_wp2_with (first | (go_at_call 28; refine (row29_any _ _ _ _).mono ?_; rintro e wx ⟨rfl, rfl⟩))
  refine HT.out.mono ?_
  rintro e w3 ⟨rfl, hb⟩
  have HK3 := Lib.hid (Kp.trans HKA.out hb)
  clear HT HKA hb
  have k4 := HK3.out.alloc (.cells #[.int .i64 3] 2)
  have HT := Lib.hid (firm29_any (some ⟨w3.heap.size, 0, none⟩) 1 1 [3] (w3.alloc (.cells #[.int .i64 3] 2)) (IsAt.new1 (Blk.new w3 2 #[.int .i64 3])) (by omega) (by intro x hx; simp at hx; unfold Fits; omega))
  have HKA := Lib.hid k4
  clear k4
  go_wp2_with fail
  refine HT.out.mono ?_
  rintro e w4 ⟨B2, cb2, rfl, hH, hb⟩
  have HH2 := Lib.hid hH
  have HK4 := Lib.hid (Kp.trans HKA.out hb)
  clear HT HKA hH hb
  have k5 := ((HK4.out.alloc (.cells #[.bool true, .bool false] 4)).alloc (.cells #[.slice (some ⟨w4.heap.size, 0, none⟩) 2 2] 35))
  have r0 := BsAt.new2 ((Blk.new w4 4 #[.bool true, .bool false]).alloc (.cells #[.slice (some ⟨w4.heap.size, 0, none⟩) 2 2] 35))
  have rp := Blk.new1 w4 (.cells #[.bool true, .bool false] 4) 35 #[.slice (some ⟨w4.heap.size, 0, none⟩) 2 2]
  have hkh : Kp w4 w4 := Kp.refl _
  have HT := Lib.hid (plans_yes (some ⟨g, 0, none⟩) B2 (some ⟨w4.heap.size + 1, 0, none⟩) 2 2 1 cb2 1 1 cexU (firmH [3]) [[true, false]] 11 ((w4.alloc (.cells #[.bool true, .bool false] 4)).alloc (.cells #[.slice (some ⟨w4.heap.size, 0, none⟩) 2 2] 35)) (HU.out.below k5) (HH2.out.below (Kp.trans hkh ((((Kp.refl w4).alloc (.cells #[.bool true, .bool false] 4)).alloc (.cells #[.slice (some ⟨w4.heap.size, 0, none⟩) 2 2] 35))))) (PlAt.new1 rp r0) (firmH_ok _) (by intro r hr; simp at hr; subst hr; simp) (by omega) (by omega) (by omega) chk3 ⟨_, best3⟩ plan3)
  have HKA := Lib.hid k5
  clear k5 hkh rp r0
  go_wp2_with (first | (go_at_call 28; refine (row29_any _ _ _ _).mono ?_; rintro e wx ⟨rfl, rfl⟩))
  refine HT.out.mono ?_
  rintro e w5 ⟨rfl, hb⟩
  have HK5 := Lib.hid (Kp.trans HKA.out hb)
  clear HT HKA hb
  have k6 := HK5.out.alloc (.cells #[.int .i64 20] 2)
  have HT := Lib.hid (firm29_any (some ⟨w5.heap.size, 0, none⟩) 1 1 [20] (w5.alloc (.cells #[.int .i64 20] 2)) (IsAt.new1 (Blk.new w5 2 #[.int .i64 20])) (by omega) (by intro x hx; simp at hx; unfold Fits; omega))
  have HKA := Lib.hid k6
  clear k6
  go_wp2_with fail
  refine HT.out.mono ?_
  rintro e w6 ⟨B3, cb3, rfl, hH, hb⟩
  have HH3 := Lib.hid hH
  have HK6 := Lib.hid (Kp.trans HKA.out hb)
  clear HT HKA hH hb
  have HT := Lib.hid (none_yes (some ⟨g, 0, none⟩) B3 2 2 1 cb3 cexU (firmH [20]) w6 (HU.out.below HK6.out) HH3.out (firmH_ok _) (by omega) (by omega) chk20 best20)
  go_wp2_with fail
  refine HT.out.mono ?_
  rintro e w7 ⟨rfl, hb⟩
  have HK7 := Lib.hid (Kp.trans HK6.out hb)
  clear HT hb
  have T0 := ccheck_raw (some ⟨g, 0, none⟩) none 2 2 0 0 cexU [] w7 (HU.out.below HK7.out) ⟨rfl, fun h => absurd rfl h⟩ (fun h hh => by simp at hh) (by omega) (by omega)
  rw [chk0] at T0
  have HT := Lib.hid T0
  clear T0
  go_wp2_with fail
  refine HT.out.mono ?_
  rintro e w8 ⟨rfl, hb⟩
  have HK8 := Lib.hid (Kp.trans HK7.out hb)
  clear HT hb
  have k9 := HK8.out.alloc (.cells #[.int .i64 3] 2)
  have HT := Lib.hid (firm29_any (some ⟨w8.heap.size, 0, none⟩) 1 1 [3] (w8.alloc (.cells #[.int .i64 3] 2)) (IsAt.new1 (Blk.new w8 2 #[.int .i64 3])) (by omega) (by intro x hx; simp at hx; unfold Fits; omega))
  have HKA := Lib.hid k9
  clear k9
  go_wp2_with fail
  refine HT.out.mono ?_
  rintro e w9 ⟨B4, cb4, rfl, hH, hb⟩
  have HH4 := Lib.hid hH
  have HK9 := Lib.hid (Kp.trans HKA.out hb)
  clear HT HKA hH hb
  obtain ⟨bh, oh, rfl, hbh, hch⟩ := HH4.out.2 (by omega)
  obtain ⟨Ab, nb, cb, Ar, nr, cr, e0, e1, e2, hbd⟩ := hch 0 (by omega)
  simp only [Nat.zero_mul, Nat.add_zero] at e0 e1 e2
  have T0 := firm_raw Ab Ar nb cb nr cr 0 (fh 3).bids w9 hbd (by intro b hb; simp [fh] at hb; subst hb; simp) (by have := hbd.1; simp [firmH] at this; omega)
  rw [show firm ⟨(fh 3).bids, 0⟩ = 3 from fh3] at T0
  have HT := Lib.hid T0
  have e2' : w9.cell? ⟨bh, oh + 2, none⟩ = some (.int .i64 0) := e2
  clear T0 hch hbd e2
  go_wp2_with fail
  refine HT.out.mono ?_
  rintro e w10 ⟨rfl, hb⟩
  have HF := Lib.hid (show Kp w w10 from Kp.trans HB1.out (Kp.trans HK9.out hb))
  clear HT hb e0 e1 e2'
  go_wp2
  go_ret
  exact ⟨rfl, HF.out⟩

end Go.Proofs.YtdoeejcmaeefcaaGreat
