/-
signedSum, Add and Sub of package whole, of integers of any size. No statement of the seat is proved here; no conditions beyond those of each theorem.
-/
import Derived.Test.YtjajigkacccdgaaGreatTdAU
import Derived.Test.YtjajigkacccdgaaGreatTdAV
import Derived.Test.YtjajigkacccdgaaGreatTdAE
namespace Go.Proofs.YtjajigkacccdgaaGreat
set_option linter.unusedVariables false
set_option linter.unusedSimpArgs false
open Go.RowKit
open Wd

theorem digs_len_mono {x y : Nat} (h : x ≤ y) : (digs x).length ≤ (digs y).length := by
 rw [digs_len_le]
 exact Nat.lt_of_le_of_lt h (digs_len_le.1 (Nat.le_refl _))
theorem ov_not (x y s : Int) (hx : Fits x) (hy : Fits y) (hs : Fits s) (h : (x < 0 ↔ ¬ s < 0) ∧ (y < 0 ↔ ¬ s < 0)) : decide (0 ≤ bits .and .i64 (bits .xor .i64 x s) (bits .xor .i64 y s)) = false := by
 rw [bits_and, bits_xor, bits_xor, BitVec.ofInt_toInt, BitVec.ofInt_toInt]
 refine decide_eq_false ?_
 have hm : ((BitVec.ofInt 64 x ^^^ BitVec.ofInt 64 s) &&& (BitVec.ofInt 64 y ^^^ BitVec.ofInt 64 s)).msb = true := by
  rw [BitVec.msb_and, BitVec.msb_xor, BitVec.msb_xor, msb_of x hx, msb_of y hy, msb_of s hs]
  by_cases h1 : x < 0 <;> by_cases h2 : y < 0 <;> by_cases h3 : s < 0 <;> simp [h1, h2, h3] <;> omega
 rw [BitVec.msb_eq_toInt] at hm
 simpa using hm

theorem wrap_fits (z : Int) : Fits (IntKind.i64.wrap z) := by rw [IntKind.wrap_i64]; unfold Fits; omega

set_option maxRecDepth 100000 in
set_option maxHeartbeats 4000000 in
theorem signedSum_any (neg neg' : Bool) (A A' : Option Addr) (n n' c c' x y : Nat) (w : World) (h : Wat w A n (digs x)) (h' : Wat w A' n' (digs y)) (hm : n ≤ 10000000000) (hm' : n' ≤ 10000000000) :
  Calls Tryz.prog 216 #[.bool neg, .slice A n c, .bool neg', .slice A' n' c'] w (RetZ w (sg neg x + sg neg' y)) := by
 by_cases hs : neg = neg'
 ·subst hs
  have hz : sg neg x + sg neg y = sg neg (x + y) := by unfold sg; cases neg <;> simp <;> omega
  rw [hz]
  have T1 := Lib.hid (fun W (hW : Below w.heap.size w W) => addWords_any A A' n n' c c' (digs x) (digs y) W (h.below hW) (h'.below hW) hm hm')
  have hbb : (neg == neg) = true := by simp
  clear h h' hz
  go_enter Tryz.func216, Tryz.ntmps216
  go_wp2_with fail
  obtain ⟨hB0, hBW, hsz⟩ := pre1 w 40 #[.bool false, .slice none 0 0]
  generalize w.alloc (.cells #[.bool false, .slice none 0 0] 40) = W at *
  have HSZ := Lib.hid hsz
  clear hsz
  refine (T1.out W hBW).mono ?_
  rintro e w1 ⟨A1, k1, c1, p1, rfl, hk1, hkb1, hW1, hp1, hF1, hb1⟩
  rw [val_digs, val_digs] at hp1
  have HP := Lib.hid hp1
  clear hp1
  go_wp2_with fail
  refine (build_any neg A1 _ c1 _ _ hW1 hk1 (by omega)).mono ?_
  intro e w2 hr
  have hr := RetZ.of_in hb1 hW1 hF1 hk1 hr
  rw [HP.out] at hr
  obtain ⟨A2, k2, c2, rfl, hk2, hW2, hF2, hb2⟩ := hr
  have hr2 := (RS.start hB0).call hb2
  obtain ⟨_, _, c0, c1', f0, f1⟩ := hr2.two
  have hfin := retZ_close hBW (by omega) (by have := HSZ.out; show _ < W.heap.size; omega) hr2 hk2 hW2 hF2
  obtain ⟨d0, d1, -, -⟩ := (hr2.done (.bool (decide (sg neg (x + y) < 0))) (.slice A2 k2 c2)).two
  have HF := Lib.hid hfin
  clear hfin
  go_wp2
  refine bodyPost_ret (v := .agg #[.bool (decide (sg neg (x + y) < 0)), .slice A2 k2 c2]) ?_ rfl HF.out
  simp [results, Tryz.results216, go_sem, d0, d1]
 ·have hbb : (neg == neg') = false := by simpa using hs
  have T0 := Lib.hid (fun W (hW : Below w.heap.size w W) => compareWords_bel A A' n n' c c' x y W (h.below hW) (h'.below hW) (by omega) (by omega))
  have hl := h.1
  have hl' := h'.1
  by_cases hxy : x < y
  ·have hz : sg neg x + sg neg' y = sg neg' (y - x) := by unfold sg; cases neg <;> cases neg' <;> simp at hs ⊢ <;> omega
   rw [hz]
   have hle := digs_len_mono (Nat.le_of_lt hxy)
   have T1 := Lib.hid (fun W (hW : Below w.heap.size w W) => subWords_any A' A n' n c' c (digs y) (digs x) W (h'.below hW) (h.below hW) hm' hm (by omega) (by rw [val_digs, val_digs]; omega))
   have hc0 : cmpI x y = -1 := cmpI_lt (by omega)
   rw [hc0] at T0
   clear h h' hz hl hl' hle hs hxy hc0
   go_enter Tryz.func216, Tryz.ntmps216
   go_wp2_with fail
   obtain ⟨hB0, hBW, hsz⟩ := pre1 w 40 #[.bool false, .slice none 0 0]
   generalize w.alloc (.cells #[.bool false, .slice none 0 0] 40) = W at *
   have HSZ := Lib.hid hsz
   clear hsz
   refine (T0.out W hBW).mono ?_
   rintro e w0 ⟨rfl, hb0⟩
   have hB0 := hB0.below hb0 hB0.lt
   have hBW0 := hBW.trans (hb0.mono hBW.size)
   have HSZ0 := Lib.hid (show w.heap.size + 1 ≤ w0.heap.size from hB0.lt)
   clear hBW HSZ T0
   obtain ⟨W, rfl⟩ : ∃ v, v = w0 := ⟨_, rfl⟩
   have hBW := hBW0
   have HSZ := HSZ0
   go_wp2_with fail
   refine (T1.out W hBW).mono ?_
   rintro e w1 ⟨A1, k1, c1, p1, rfl, hk1, hkb1, hW1, hp1, hF1, hb1⟩
   rw [val_digs, val_digs] at hp1; replace hkb1 := Nat.le_of_eq hkb1
   have HP := Lib.hid hp1
   clear hp1
   go_wp2_with fail
   refine (build_any neg' A1 _ c1 _ _ hW1 hk1 (by omega)).mono ?_
   intro e w2 hr
   have hr := RetZ.of_in hb1 hW1 hF1 hk1 hr
   rw [HP.out] at hr
   obtain ⟨A2, k2, c2, rfl, hk2, hW2, hF2, hb2⟩ := hr
   have hr2 := (RS.start hB0).call hb2
   obtain ⟨_, _, c0, c1', f0, f1⟩ := hr2.two
   have hfin := retZ_close hBW (by omega) (by have := HSZ.out; show _ < W.heap.size; omega) hr2 hk2 hW2 hF2
   obtain ⟨d0, d1, -, -⟩ := (hr2.done (.bool (decide (sg neg' (y - x) < 0))) (.slice A2 k2 c2)).two
   have HF := Lib.hid hfin
   clear hfin
   go_wp2
   refine bodyPost_ret (v := .agg #[.bool (decide (sg neg' (y - x) < 0)), .slice A2 k2 c2]) ?_ rfl HF.out
   simp [results, Tryz.results216, go_sem, d0, d1]
  ·have hz : sg neg x + sg neg' y = sg neg (x - y) := by unfold sg; cases neg <;> cases neg' <;> simp at hs ⊢ <;> omega
   rw [hz]
   have hle := digs_len_mono (show y ≤ x by omega)
   have T1 := Lib.hid (fun W (hW : Below w.heap.size w W) => subWords_any A A' n n' c c' (digs x) (digs y) W (h.below hW) (h'.below hW) hm hm' (by omega) (by rw [val_digs, val_digs]; omega))
   have hc0 : ¬ cmpI x y < 0 := by
    rcases Nat.lt_or_ge y x with h1 | h1
    ·rw [cmpI_gt (by omega)]; decide
    ·rw [cmpI_eq (by omega)]; decide
   generalize cmpI x y = cc at *
   clear h h' hz hl hl' hle hs hxy
   go_enter Tryz.func216, Tryz.ntmps216
   go_wp2_with fail
   obtain ⟨hB0, hBW, hsz⟩ := pre1 w 40 #[.bool false, .slice none 0 0]
   generalize w.alloc (.cells #[.bool false, .slice none 0 0] 40) = W at *
   have HSZ := Lib.hid hsz
   clear hsz
   refine (T0.out W hBW).mono ?_
   rintro e w0 ⟨rfl, hb0⟩
   have hB0 := hB0.below hb0 hB0.lt
   have hBW0 := hBW.trans (hb0.mono hBW.size)
   have HSZ0 := Lib.hid (show w.heap.size + 1 ≤ w0.heap.size from hB0.lt)
   clear hBW HSZ T0
   obtain ⟨W, rfl⟩ : ∃ v, v = w0 := ⟨_, rfl⟩
   have hBW := hBW0
   have HSZ := HSZ0
   go_wp2_with fail
   refine (T1.out W hBW).mono ?_
   rintro e w1 ⟨A1, k1, c1, p1, rfl, hk1, hkb1, hW1, hp1, hF1, hb1⟩
   rw [val_digs, val_digs] at hp1; replace hkb1 := Nat.le_of_eq hkb1
   have HP := Lib.hid hp1
   clear hp1
   go_wp2_with fail
   refine (build_any neg A1 _ c1 _ _ hW1 hk1 (by omega)).mono ?_
   intro e w2 hr
   have hr := RetZ.of_in hb1 hW1 hF1 hk1 hr
   rw [HP.out] at hr
   obtain ⟨A2, k2, c2, rfl, hk2, hW2, hF2, hb2⟩ := hr
   have hr2 := (RS.start hB0).call hb2
   obtain ⟨_, _, c0, c1', f0, f1⟩ := hr2.two
   have hfin := retZ_close hBW (by omega) (by have := HSZ.out; show _ < W.heap.size; omega) hr2 hk2 hW2 hF2
   obtain ⟨d0, d1, -, -⟩ := (hr2.done (.bool (decide (sg neg (x - y) < 0))) (.slice A2 k2 c2)).two
   have HF := Lib.hid hfin
   clear hfin
   go_wp2
   refine bodyPost_ret (v := .agg #[.bool (decide (sg neg (x - y) < 0)), .slice A2 k2 c2]) ?_ rfl HF.out
   simp [results, Tryz.results216, go_sem, d0, d1]

end Go.Proofs.YtjajigkacccdgaaGreat
