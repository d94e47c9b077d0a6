/-
awake of the statements on package energy. No statement of the seat is proved here; no conditions beyond those of each theorem.
-/
import Derived.Test.YthpldmlpononhaaGreatL1
namespace Go.Proofs.YthpldmlpononhaaGreat
set_option linter.unusedVariables false
set_option linter.unusedSimpArgs false
open Go.RowKit
open Wd
open En (Pc PU)

set_option maxRecDepth 100000 in
set_option maxHeartbeats 8000000 in
theorem awake28_any (w : World) : Calls Tryz.prog 42 #[] w fun e w' => e = .returned (.bool true) ∧ Below w.heap.size w w' := by
  have HEX := Lib.hid (ex_any w)
  go_enter Tryz.func42, Tryz.ntmps42
  go_wp2_with fail
  refine HEX.out.mono ?_
  rintro e w1 ⟨g, rfl, hU, hb1⟩
  have hBb := Blk.new w1 4 #[.bool true, .bool true]
  have hB2 := BsAt.new2 hBb
  have hU2 := hU.below ((Below.refl _ w1).alloc (Nat.le_refl _) (.cells #[.bool true, .bool true] 4))
  have hbw := hb1.alloc hb1.size (.cells #[.bool true, .bool true] 4)
  clear HEX hU hb1 hBb
  generalize hgb : w1.heap.size = gb at *
  generalize hWW : w1.alloc (.cells #[.bool true, .bool true] 4) = W at *
  have HU := Lib.hid hU2
  have HB := Lib.hid hB2
  have HW := Lib.hid hbw
  have T1 := erange_ok (some ⟨g, 0, none⟩) (some ⟨gb, 0, none⟩) 2 2 2 2 exU [true, true] W hU2 hB2 (by omega) (by omega) (by decide)
  rw [ex_r1, ex_r2] at T1
  have HT1 := Lib.hid T1
  clear hU2 hB2 hbw T1
  have HKW : Hid (Below W.heap.size W W) := Below.refl _ _
  go_wp2_with fail
  refine HT1.out.mono ?_
  rintro e v1 ⟨rfl, hb⟩
  have HKv1 : Hid (Below W.heap.size W v1) := hb
  clear hb HT1
  have HT2 := Lib.hid (elc_no (some ⟨g, 0, none⟩) (some ⟨gb, 0, none⟩) 2 2 2 2 exU [true, true] (1) v1 (HU.out.below HKv1.out) (HB.out.below HKv1.out) (by omega) (by omega) (by rw [ex_e4]; decide))
  rw [ex_e4] at HT2
  go_wp2_with fail
  refine HT2.out.mono ?_
  rintro e v2 ⟨rfl, hb⟩
  have HKv2 : Hid (Below W.heap.size W v2) := HKv1.out.trans (hb.mono HKv1.out.size)
  clear hb HT2
  have HT3 := Lib.hid (elc_no (some ⟨g, 0, none⟩) (some ⟨gb, 0, none⟩) 2 2 2 2 exU [true, true] (16) v2 (HU.out.below HKv2.out) (HB.out.below HKv2.out) (by omega) (by omega) (by rw [ex_e5]; decide))
  rw [ex_e5] at HT3
  go_wp2_with fail
  refine HT3.out.mono ?_
  rintro e v3 ⟨rfl, hb⟩
  have HKv3 : Hid (Below W.heap.size W v3) := HKv2.out.trans (hb.mono HKv2.out.size)
  clear hb HT3
  have HT4 := Lib.hid (elc_no (some ⟨g, 0, none⟩) (some ⟨gb, 0, none⟩) 2 2 2 2 exU [true, true] (-1) v3 (HU.out.below HKv3.out) (HB.out.below HKv3.out) (by omega) (by omega) (by rw [ex_e6]; decide))
  rw [ex_e6] at HT4
  go_wp2_with fail
  refine HT4.out.mono ?_
  rintro e v4 ⟨rfl, hb⟩
  have HKv4 : Hid (Below W.heap.size W v4) := HKv3.out.trans (hb.mono HKv3.out.size)
  clear hb HT4
  have hK2 : Below W.heap.size W (v4.alloc (.cells #[.int .i64 5, .int .i64 2] 2)) := HKv4.out.alloc HKv4.out.size _
  have hin := IsAt.new2 (Blk.new v4 2 #[.int .i64 5, .int .i64 2])
  have HG5 := Lib.hid (gives_yes (some ⟨g, 0, none⟩) (some ⟨gb, 0, none⟩) (some ⟨v4.heap.size, 0, none⟩) 2 2 2 2 exU [true, true] [5, 2] 7 9 _ (HU.out.below hK2) (HB.out.below hK2) hin (by omega) ex_e1 ex_opt1 ex_c1)
  have HK2 := Lib.hid hK2
  clear hin hK2
  go_wp2_with fail
  refine HG5.out.mono ?_
  rintro e v5 ⟨rfl, hb⟩
  have HKv5 : Hid (Below W.heap.size W v5) := HK2.out.trans (hb.mono HK2.out.size)
  clear hb HG5 HK2
  have hK2 : Below W.heap.size W (v5.alloc (.cells #[.int .i64 5, .int .i64 4] 2)) := HKv5.out.alloc HKv5.out.size _
  have hin := IsAt.new2 (Blk.new v5 2 #[.int .i64 5, .int .i64 4])
  have HG6 := Lib.hid (gives_yes (some ⟨g, 0, none⟩) (some ⟨gb, 0, none⟩) (some ⟨v5.heap.size, 0, none⟩) 2 2 2 2 exU [true, true] [5, 4] 9 14 _ (HU.out.below hK2) (HB.out.below hK2) hin (by omega) ex_e2 ex_opt2 ex_c2)
  have HK2 := Lib.hid hK2
  clear hin hK2
  go_wp2_with fail
  refine HG6.out.mono ?_
  rintro e v6 ⟨rfl, hb⟩
  have HKv6 : Hid (Below W.heap.size W v6) := HK2.out.trans (hb.mono HK2.out.size)
  clear hb HG6 HK2
  have hK2 : Below W.heap.size W ((v6.alloc (.cells #[.bool false, .bool true] 4)).alloc (.cells #[.int .i64 0, .int .i64 4] 2)) := (HKv6.out.alloc HKv6.out.size _).alloc (by rw [World.size_alloc]; exact Nat.le_succ_of_le HKv6.out.size) _
  have hbn := BsAt.new2 ((Blk.new v6 4 #[.bool false, .bool true]).alloc (.cells #[.int .i64 0, .int .i64 4] 2))
  have hin := IsAt.new2 (Blk.new1 v6 (.cells #[.bool false, .bool true] 4) 2 #[.int .i64 0, .int .i64 4])
  have HG7 := Lib.hid (gives_yes (some ⟨g, 0, none⟩) (some ⟨v6.heap.size, 0, none⟩) (some ⟨v6.heap.size + 1, 0, none⟩) 2 2 2 2 exU [false, true] [0, 4] 4 9 _ (HU.out.below hK2) hbn hin (by omega) ex_e3 ex_opt3 ex_c3)
  have HK2 := Lib.hid hK2
  clear hin hK2
  go_wp2_with fail
  refine HG7.out.mono ?_
  rintro e v7 ⟨rfl, hb⟩
  have HKv7 : Hid (Below W.heap.size W v7) := HK2.out.trans (hb.mono HK2.out.size)
  clear hb HG7 HK2
  go_wp2
  go_ret
  exact ⟨rfl, HW.out.trans (HKv7.out.mono HW.out.size)⟩

end Go.Proofs.YthpldmlpononhaaGreat
