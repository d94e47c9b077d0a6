/-
Add and Sub of package whole, of integers of any size. No statement of the seat is proved here; no conditions beyond those of each theorem.
-/
import Derived.Test.YtjajigkacccdgaaGreatTdAW
namespace Go.Proofs.YtjajigkacccdgaaGreat
set_option linter.unusedVariables false
set_option linter.unusedSimpArgs false
open Go.RowKit
open Wd

theorem int64_one (neg : Bool) (A : Option Addr) (n c : Nat) (l : List Nat) (hnc : n ≤ c) (hm : n ≤ 10000000000) : ∃ (v : Int) (b : Bool), (∀ w, Wat w A n l → Calls Tryz.prog 138 #[.agg #[.bool neg, .slice A n c]] w fun e w' => e = .returned (.tuple #[.int .i64 v, .bool b]) ∧ Below w.heap.size w w') ∧ (b = true → v = sg neg (val l) ∧ Fits (sg neg (val l))) := by
 by_cases hz : Fits (sg neg (val l))
 ·exact ⟨_, true, fun w h => int64_yes neg A n c l w h hnc (by omega) hz, fun _ => ⟨rfl, hz⟩⟩
 ·exact ⟨0, false, fun w h => int64_no neg A n c l w h hnc (by omega) hz, fun h => by simp at h⟩
theorem ov_nots (x y s : Int) (hx : Fits x) (hy : Fits y) (hs : Fits s) (h : (x < 0 ↔ ¬ y < 0) ∧ (x < 0 ↔ ¬ s < 0)) : decide (0 ≤ bits .and .i64 (bits .xor .i64 x y) (bits .xor .i64 x s)) = false := by
 rw [bits_and, bits_xor, bits_xor, BitVec.ofInt_toInt, BitVec.ofInt_toInt]
 refine decide_eq_false ?_
 have hm : ((BitVec.ofInt 64 x ^^^ BitVec.ofInt 64 y) &&& (BitVec.ofInt 64 x ^^^ BitVec.ofInt 64 s)).msb = true := by
  rw [BitVec.msb_and, BitVec.msb_xor, BitVec.msb_xor, msb_of x hx, msb_of y hy, msb_of s hs]
  by_cases h1 : x < 0 <;> by_cases h2 : y < 0 <;> by_cases h3 : s < 0 <;> simp [h1, h2, h3] <;> omega
 rw [BitVec.msb_eq_toInt] at hm
 simpa using hm


set_option maxRecDepth 100000 in
set_option maxHeartbeats 8000000 in
theorem add_any (neg neg' : Bool) (A A' : Option Addr) (n n' c c' : Nat) (l l' : List Nat) (w : World) (h : Wat w A n l) (h' : Wat w A' n' l') (hnc : n ≤ c) (hnc' : n' ≤ c') (hm : n ≤ 10000000000) (hm' : n' ≤ 10000000000) :
  Calls Tryz.prog 191 #[.agg #[.bool neg, .slice A n c], .agg #[.bool neg', .slice A' n' c']] w (RetZ w (sg neg (val l) + sg neg' (val l'))) := by
 by_cases hall : (Fits (sg neg (val l)) ∧ Fits (sg neg' (val l'))) ∧ Fits (sg neg (val l) + sg neg' (val l'))
 ·exact add_fits neg neg' A A' n n' c c' l l' w h h' hnc hnc' hm hm' hall.1.1 hall.1.2 hall.2
 obtain ⟨v1, b1, T1, hT1⟩ := int64_one neg A n c l hnc hm
 obtain ⟨v2, b2, T2, hT2⟩ := int64_one neg' A' n' c' l' hnc' hm'
 have T1 := Lib.hid (fun W hW => T1 W hW)
 have T2 := Lib.hid (fun W hW => T2 W hW)
 have hle := h.trim_le
 have hle' := h'.trim_le
 have hzs : sg neg (val l) + sg neg' (val l') = sg neg (val l) + sg neg' (val l') := by rfl
 have HSS0 := Lib.hid (fun W (hW : Wat W A n l ∧ Wat W A' n' l') => signedSum_any neg neg' A A' _ _ c c' (val l) (val l') W hW.1.trim hW.2.trim (by omega) (by omega))
 rw [hzs] at HSS0
 have hno : b1 = true → b2 = true → Fits v1 ∧ Fits v2 ∧ ¬ Fits (v1 + v2) := fun h1 h2 => by
  obtain ⟨e1, f1⟩ := hT1 h1
  obtain ⟨e2, f2⟩ := hT2 h2
  rw [e1, e2]
  exact ⟨f1, f2, fun f => hall ⟨⟨f1, f2⟩, f⟩⟩
 have HNO := Lib.hid hno
 generalize sg neg (val l) + sg neg' (val l') = zz at *
 clear hall hT1 hT2 hzs hno
 go_enter Tryz.func191, Tryz.ntmps191
 go_wp2_with fail
 obtain ⟨hB0, hB1, hB2, hBW, hsz⟩ := pre3 w 40 #[.bool neg, .slice A n c] 40 #[.bool neg', .slice A' n' c'] 40 #[.bool false, .slice none 0 0]
 generalize ((w.alloc (.cells #[.bool neg, .slice A n c] 40)).alloc (.cells #[.bool neg', .slice A' n' c'] 40)).alloc (.cells #[.bool false, .slice none 0 0] 40) = W at *
 have HSZ := Lib.hid hsz
 clear hsz

 refine (T1.out W (h.below hBW)).mono ?_
 rintro e w1 ⟨rfl, hb1⟩
 have hB0 := hB0.below hb1 (by have := HSZ.out; omega)
 have hB1 := hB1.below hb1 (by have := HSZ.out; omega)
 have hB2 := hB2.below hb1 (by have := HSZ.out; omega)
 have hb1 : Below w.heap.size w w1 := hBW.trans (hb1.mono hBW.size)
 have hsz1 : w.heap.size + 1 + 1 + 1 ≤ w1.heap.size := hB2.lt
 obtain ⟨c2, c3, -, -⟩ := hB1.two
 clear hBW
 go_wp2_with fail
 refine (T2.out w1 (h'.below hb1)).mono ?_
 rintro e w2 ⟨rfl, hb2⟩
 have hB0 := hB0.below hb2 (by omega)
 have hB1 := hB1.below hb2 (by omega)
 have hB2 := hB2.below hb2 (by omega)
 have hBW : Below w.heap.size w w2 := hb1.trans (hb2.mono hb1.size)
 have hsz2 : w.heap.size + 1 + 1 + 1 ≤ w2.heap.size := hB2.lt
 clear hb1 hsz1 c2 c3 HSZ T1 T2 hb2
 have HSZ := Lib.hid hsz2
 obtain ⟨W, rfl⟩ : ∃ v, v = w2 := ⟨_, rfl⟩
 have s4 := RS.start hB2
 have hw : ∀ w', RS (w.heap.size + 1 + 1) 40 W w' → Wat w' A n l ∧ Wat w' A' n' l' := fun w' hk => ⟨h.below (hBW.trans (hk.1.mono (by omega))), h'.below (hBW.trans (hk.1.mono (by omega)))⟩
 have HWW := Lib.hid hw
 have HSS := Lib.hid (fun W' (hW' : RS (w.heap.size + 1 + 1) 40 W W') => HSS0.out W' (HWW.out W' hW'))
 clear hw HSS0 hsz2
 have hgo : (b1 = false) ∨ (b1 = true ∧ b2 = false) ∨ (b1 = true ∧ b2 = true) := by cases b1 <;> cases b2 <;> simp
 rcases hgo with rfl | ⟨rfl, rfl⟩ | ⟨rfl, rfl⟩
 ·clear HNO
  go_wp2_with fail
  have hS : ∀ w', RS (w.heap.size + 1 + 1) 40 W w' → (w'.cell? ⟨w.heap.size, 0, none⟩ = some (.bool neg) ∧ w'.cell? ⟨w.heap.size, 1, none⟩ = some (.slice A n c) ∧ w'.cell? ⟨w.heap.size + 1, 0, none⟩ = some (.bool neg') ∧ w'.cell? ⟨w.heap.size + 1, 1, none⟩ = some (.slice A' n' c')) ∧ RS (w.heap.size + 1 + 1) 40 W w' := fun w' hk => ⟨⟨(hk.blk hB0 (by omega)).cell 0, (hk.blk hB0 (by omega)).cell 1, (hk.blk hB1 (by omega)).cell 0, (hk.blk hB1 (by omega)).cell 1⟩, hk⟩
  have HS := Lib.hid hS
  clear hS
  clear hB0 hB1 hB2
  go_region_held3 (fun w' => (w'.cell? ⟨w.heap.size, 0, none⟩ = some (.bool neg) ∧ w'.cell? ⟨w.heap.size, 1, none⟩ = some (.slice A n c) ∧ w'.cell? ⟨w.heap.size + 1, 0, none⟩ = some (.bool neg') ∧ w'.cell? ⟨w.heap.size + 1, 1, none⟩ = some (.slice A' n' c')) ∧ RS (w.heap.size + 1 + 1) 40 W w')
   (first | (with_reducible refine HS.out _ ?_; with_reducible assumption) | (with_reducible refine HS.out _ (RS.drew ?_); with_reducible assumption) | (with_reducible refine' HS.out _ (RS.drew (And.right ?_)); rotate_left; with_reducible assumption) | (with_reducible refine' HS.out _ (RS.set (And.right ?_) _ _); rotate_left; with_reducible assumption))
   (first
    | (go_at_call_of 141 (Value.slice A n c); have hk := And.right ‹_ ∧ RS (w.heap.size + 1 + 1) 40 W _›; refine (trim_any A n c l _ (HWW.out _ hk).1 hnc (by omega)).mono ?_; rintro e w5 ⟨rfl, rfl⟩)
    | (go_at_call_of 141 (Value.slice A' n' c'); have hk := And.right ‹_ ∧ RS (w.heap.size + 1 + 1) 40 W _›; refine (trim_any A' n' c' l' _ (HWW.out _ hk).2 hnc' (by omega)).mono ?_; rintro e w6 ⟨rfl, rfl⟩)
    | (go_at_call 216; have hk := And.right ‹_ ∧ RS (w.heap.size + 1 + 1) 40 W _›; refine (HSS.out _ hk).mono ?_; rintro e w3 ⟨A3, k3, c3, rfl, hk3, hW3, hF3, hb3⟩; have hz3 := hk.1.size; have hr3 := hk.call hb3; obtain ⟨_, _, c0, c1, f0, f1⟩ := hr3.two))

  have hfin := retZ_close hBW (by omega) (by have := HSZ.out; omega) hr3 hk3 hW3 hF3
  obtain ⟨d0, d1, -, -⟩ := (hr3.done (.bool (decide (zz < 0))) (.slice A3 k3 c3)).two
  have HF := Lib.hid hfin
  clear hfin
  go_wp2
  refine bodyPost_ret (v := .agg #[.bool (decide (zz < 0)), .slice A3 k3 c3]) ?_ rfl HF.out
  simp [results, Tryz.results191, go_sem, d0, d1]

 ·clear HNO
  go_wp2_with fail
  have hS : ∀ w', RS (w.heap.size + 1 + 1) 40 W w' → (w'.cell? ⟨w.heap.size, 0, none⟩ = some (.bool neg) ∧ w'.cell? ⟨w.heap.size, 1, none⟩ = some (.slice A n c) ∧ w'.cell? ⟨w.heap.size + 1, 0, none⟩ = some (.bool neg') ∧ w'.cell? ⟨w.heap.size + 1, 1, none⟩ = some (.slice A' n' c')) ∧ RS (w.heap.size + 1 + 1) 40 W w' := fun w' hk => ⟨⟨(hk.blk hB0 (by omega)).cell 0, (hk.blk hB0 (by omega)).cell 1, (hk.blk hB1 (by omega)).cell 0, (hk.blk hB1 (by omega)).cell 1⟩, hk⟩
  have HS := Lib.hid hS
  clear hS
  clear hB0 hB1 hB2
  go_region_held3 (fun w' => (w'.cell? ⟨w.heap.size, 0, none⟩ = some (.bool neg) ∧ w'.cell? ⟨w.heap.size, 1, none⟩ = some (.slice A n c) ∧ w'.cell? ⟨w.heap.size + 1, 0, none⟩ = some (.bool neg') ∧ w'.cell? ⟨w.heap.size + 1, 1, none⟩ = some (.slice A' n' c')) ∧ RS (w.heap.size + 1 + 1) 40 W w')
   (first | (with_reducible refine HS.out _ ?_; with_reducible assumption) | (with_reducible refine HS.out _ (RS.drew ?_); with_reducible assumption) | (with_reducible refine' HS.out _ (RS.drew (And.right ?_)); rotate_left; with_reducible assumption) | (with_reducible refine' HS.out _ (RS.set (And.right ?_) _ _); rotate_left; with_reducible assumption))
   (first
    | (go_at_call_of 141 (Value.slice A n c); have hk := And.right ‹_ ∧ RS (w.heap.size + 1 + 1) 40 W _›; refine (trim_any A n c l _ (HWW.out _ hk).1 hnc (by omega)).mono ?_; rintro e w5 ⟨rfl, rfl⟩)
    | (go_at_call_of 141 (Value.slice A' n' c'); have hk := And.right ‹_ ∧ RS (w.heap.size + 1 + 1) 40 W _›; refine (trim_any A' n' c' l' _ (HWW.out _ hk).2 hnc' (by omega)).mono ?_; rintro e w6 ⟨rfl, rfl⟩)
    | (go_at_call 216; have hk := And.right ‹_ ∧ RS (w.heap.size + 1 + 1) 40 W _›; refine (HSS.out _ hk).mono ?_; rintro e w3 ⟨A3, k3, c3, rfl, hk3, hW3, hF3, hb3⟩; have hz3 := hk.1.size; have hr3 := hk.call hb3; obtain ⟨_, _, c0, c1, f0, f1⟩ := hr3.two))

  have hfin := retZ_close hBW (by omega) (by have := HSZ.out; omega) hr3 hk3 hW3 hF3
  obtain ⟨d0, d1, -, -⟩ := (hr3.done (.bool (decide (zz < 0))) (.slice A3 k3 c3)).two
  have HF := Lib.hid hfin
  clear hfin
  go_wp2
  refine bodyPost_ret (v := .agg #[.bool (decide (zz < 0)), .slice A3 k3 c3]) ?_ rfl HF.out
  simp [results, Tryz.results191, go_sem, d0, d1]

 ·obtain ⟨hv1, hv2, hv3⟩ := HNO.out rfl rfl
  obtain ⟨s, hs⟩ : ∃ s, IntKind.i64.wrap (v1 + v2) = s := ⟨_, rfl⟩
  have hs' : wrap64 (v1 + v2) = s := by rw [← hs, IntKind.wrap_i64]; unfold wrap64; omega
  have hov : decide (0 ≤ bits .and .i64 (bits .xor .i64 v1 s) (bits .xor .i64 v2 s)) = false := ov_not v1 v2 s hv1 hv2 (by rw [← hs]; exact wrap_fits _) (by rw [← hs, IntKind.wrap_i64]; unfold Fits at *; omega)

  clear HNO hv1 hv2 hv3
  go_wp2_with fail
  have hS : ∀ w', RS (w.heap.size + 1 + 1) 40 W w' → (w'.cell? ⟨w.heap.size, 0, none⟩ = some (.bool neg) ∧ w'.cell? ⟨w.heap.size, 1, none⟩ = some (.slice A n c) ∧ w'.cell? ⟨w.heap.size + 1, 0, none⟩ = some (.bool neg') ∧ w'.cell? ⟨w.heap.size + 1, 1, none⟩ = some (.slice A' n' c')) ∧ RS (w.heap.size + 1 + 1) 40 W w' := fun w' hk => ⟨⟨(hk.blk hB0 (by omega)).cell 0, (hk.blk hB0 (by omega)).cell 1, (hk.blk hB1 (by omega)).cell 0, (hk.blk hB1 (by omega)).cell 1⟩, hk⟩
  have HS := Lib.hid hS
  clear hS
  clear hB0 hB1 hB2
  go_region_held3 (fun w' => (w'.cell? ⟨w.heap.size, 0, none⟩ = some (.bool neg) ∧ w'.cell? ⟨w.heap.size, 1, none⟩ = some (.slice A n c) ∧ w'.cell? ⟨w.heap.size + 1, 0, none⟩ = some (.bool neg') ∧ w'.cell? ⟨w.heap.size + 1, 1, none⟩ = some (.slice A' n' c')) ∧ RS (w.heap.size + 1 + 1) 40 W w')
   (first | (with_reducible refine HS.out _ ?_; with_reducible assumption) | (with_reducible refine HS.out _ (RS.drew ?_); with_reducible assumption) | (with_reducible refine' HS.out _ (RS.drew (And.right ?_)); rotate_left; with_reducible assumption) | (with_reducible refine' HS.out _ (RS.set (And.right ?_) _ _); rotate_left; with_reducible assumption))
   (first
    | (go_at_call_of 141 (Value.slice A n c); have hk := And.right ‹_ ∧ RS (w.heap.size + 1 + 1) 40 W _›; refine (trim_any A n c l _ (HWW.out _ hk).1 hnc (by omega)).mono ?_; rintro e w5 ⟨rfl, rfl⟩)
    | (go_at_call_of 141 (Value.slice A' n' c'); have hk := And.right ‹_ ∧ RS (w.heap.size + 1 + 1) 40 W _›; refine (trim_any A' n' c' l' _ (HWW.out _ hk).2 hnc' (by omega)).mono ?_; rintro e w6 ⟨rfl, rfl⟩)
    | (go_at_call 216; have hk := And.right ‹_ ∧ RS (w.heap.size + 1 + 1) 40 W _›; refine (HSS.out _ hk).mono ?_; rintro e w3 ⟨A3, k3, c3, rfl, hk3, hW3, hF3, hb3⟩; have hz3 := hk.1.size; have hr3 := hk.call hb3; obtain ⟨_, _, c0, c1, f0, f1⟩ := hr3.two))

  have hfin := retZ_close hBW (by omega) (by have := HSZ.out; omega) hr3 hk3 hW3 hF3
  obtain ⟨d0, d1, -, -⟩ := (hr3.done (.bool (decide (zz < 0))) (.slice A3 k3 c3)).two
  have HF := Lib.hid hfin
  clear hfin
  go_wp2
  refine bodyPost_ret (v := .agg #[.bool (decide (zz < 0)), .slice A3 k3 c3]) ?_ rfl HF.out
  simp [results, Tryz.results191, go_sem, d0, d1]


set_option maxRecDepth 100000 in
set_option maxHeartbeats 8000000 in
theorem sub_any (neg neg' : Bool) (A A' : Option Addr) (n n' c c' : Nat) (l l' : List Nat) (w : World) (h : Wat w A n l) (h' : Wat w A' n' l') (hnc : n ≤ c) (hnc' : n' ≤ c') (hm : n ≤ 10000000000) (hm' : n' ≤ 10000000000) :
  Calls Tryz.prog 193 #[.agg #[.bool neg, .slice A n c], .agg #[.bool neg', .slice A' n' c']] w (RetZ w (sg neg (val l) - sg neg' (val l'))) := by
 by_cases hall : (Fits (sg neg (val l)) ∧ Fits (sg neg' (val l'))) ∧ Fits (sg neg (val l) - sg neg' (val l'))
 ·exact sub_fits neg neg' A A' n n' c c' l l' w h h' hnc hnc' hm hm' hall.1.1 hall.1.2 hall.2
 obtain ⟨v1, b1, T1, hT1⟩ := int64_one neg A n c l hnc hm
 obtain ⟨v2, b2, T2, hT2⟩ := int64_one neg' A' n' c' l' hnc' hm'
 have T1 := Lib.hid (fun W hW => T1 W hW)
 have T2 := Lib.hid (fun W hW => T2 W hW)
 have hle := h.trim_le
 have hle' := h'.trim_le
 have hzs : sg neg (val l) + sg (!neg') (val l') = sg neg (val l) - sg neg' (val l') := by unfold sg; cases neg <;> cases neg' <;> simp <;> omega
 have HSS0 := Lib.hid (fun W (hW : Wat W A n l ∧ Wat W A' n' l') => signedSum_any neg (!neg') A A' _ _ c c' (val l) (val l') W hW.1.trim hW.2.trim (by omega) (by omega))
 rw [hzs] at HSS0
 have hno : b1 = true → b2 = true → Fits v1 ∧ Fits v2 ∧ ¬ Fits (v1 - v2) := fun h1 h2 => by
  obtain ⟨e1, f1⟩ := hT1 h1
  obtain ⟨e2, f2⟩ := hT2 h2
  rw [e1, e2]
  exact ⟨f1, f2, fun f => hall ⟨⟨f1, f2⟩, f⟩⟩
 have HNO := Lib.hid hno
 generalize sg neg (val l) - sg neg' (val l') = zz at *
 clear hall hT1 hT2 hzs hno
 go_enter Tryz.func193, Tryz.ntmps193
 go_wp2_with fail
 obtain ⟨hB0, hB1, hB2, hBW, hsz⟩ := pre3 w 40 #[.bool neg, .slice A n c] 40 #[.bool neg', .slice A' n' c'] 40 #[.bool false, .slice none 0 0]
 generalize ((w.alloc (.cells #[.bool neg, .slice A n c] 40)).alloc (.cells #[.bool neg', .slice A' n' c'] 40)).alloc (.cells #[.bool false, .slice none 0 0] 40) = W at *
 have HSZ := Lib.hid hsz
 clear hsz

 refine (T1.out W (h.below hBW)).mono ?_
 rintro e w1 ⟨rfl, hb1⟩
 have hB0 := hB0.below hb1 (by have := HSZ.out; omega)
 have hB1 := hB1.below hb1 (by have := HSZ.out; omega)
 have hB2 := hB2.below hb1 (by have := HSZ.out; omega)
 have hb1 : Below w.heap.size w w1 := hBW.trans (hb1.mono hBW.size)
 have hsz1 : w.heap.size + 1 + 1 + 1 ≤ w1.heap.size := hB2.lt
 obtain ⟨c2, c3, -, -⟩ := hB1.two
 clear hBW
 go_wp2_with fail
 refine (T2.out w1 (h'.below hb1)).mono ?_
 rintro e w2 ⟨rfl, hb2⟩
 have hB0 := hB0.below hb2 (by omega)
 have hB1 := hB1.below hb2 (by omega)
 have hB2 := hB2.below hb2 (by omega)
 have hBW : Below w.heap.size w w2 := hb1.trans (hb2.mono hb1.size)
 have hsz2 : w.heap.size + 1 + 1 + 1 ≤ w2.heap.size := hB2.lt
 clear hb1 hsz1 c2 c3 HSZ T1 T2 hb2
 have HSZ := Lib.hid hsz2
 obtain ⟨W, rfl⟩ : ∃ v, v = w2 := ⟨_, rfl⟩
 have s4 := RS.start hB2
 have hw : ∀ w', RS (w.heap.size + 1 + 1) 40 W w' → Wat w' A n l ∧ Wat w' A' n' l' := fun w' hk => ⟨h.below (hBW.trans (hk.1.mono (by omega))), h'.below (hBW.trans (hk.1.mono (by omega)))⟩
 have HWW := Lib.hid hw
 have HSS := Lib.hid (fun W' (hW' : RS (w.heap.size + 1 + 1) 40 W W') => HSS0.out W' (HWW.out W' hW'))
 clear hw HSS0 hsz2
 have hgo : (b1 = false) ∨ (b1 = true ∧ b2 = false) ∨ (b1 = true ∧ b2 = true) := by cases b1 <;> cases b2 <;> simp
 rcases hgo with rfl | ⟨rfl, rfl⟩ | ⟨rfl, rfl⟩
 ·clear HNO
  go_wp2_with fail
  have hS : ∀ w', RS (w.heap.size + 1 + 1) 40 W w' → (w'.cell? ⟨w.heap.size, 0, none⟩ = some (.bool neg) ∧ w'.cell? ⟨w.heap.size, 1, none⟩ = some (.slice A n c) ∧ w'.cell? ⟨w.heap.size + 1, 0, none⟩ = some (.bool neg') ∧ w'.cell? ⟨w.heap.size + 1, 1, none⟩ = some (.slice A' n' c')) ∧ RS (w.heap.size + 1 + 1) 40 W w' := fun w' hk => ⟨⟨(hk.blk hB0 (by omega)).cell 0, (hk.blk hB0 (by omega)).cell 1, (hk.blk hB1 (by omega)).cell 0, (hk.blk hB1 (by omega)).cell 1⟩, hk⟩
  have HS := Lib.hid hS
  clear hS
  clear hB0 hB1 hB2
  go_region_held3 (fun w' => (w'.cell? ⟨w.heap.size, 0, none⟩ = some (.bool neg) ∧ w'.cell? ⟨w.heap.size, 1, none⟩ = some (.slice A n c) ∧ w'.cell? ⟨w.heap.size + 1, 0, none⟩ = some (.bool neg') ∧ w'.cell? ⟨w.heap.size + 1, 1, none⟩ = some (.slice A' n' c')) ∧ RS (w.heap.size + 1 + 1) 40 W w')
   (first | (with_reducible refine HS.out _ ?_; with_reducible assumption) | (with_reducible refine HS.out _ (RS.drew ?_); with_reducible assumption) | (with_reducible refine' HS.out _ (RS.drew (And.right ?_)); rotate_left; with_reducible assumption) | (with_reducible refine' HS.out _ (RS.set (And.right ?_) _ _); rotate_left; with_reducible assumption))
   (first
    | (go_at_call_of 141 (Value.slice A n c); have hk := And.right ‹_ ∧ RS (w.heap.size + 1 + 1) 40 W _›; refine (trim_any A n c l _ (HWW.out _ hk).1 hnc (by omega)).mono ?_; rintro e w5 ⟨rfl, rfl⟩)
    | (go_at_call_of 141 (Value.slice A' n' c'); have hk := And.right ‹_ ∧ RS (w.heap.size + 1 + 1) 40 W _›; refine (trim_any A' n' c' l' _ (HWW.out _ hk).2 hnc' (by omega)).mono ?_; rintro e w6 ⟨rfl, rfl⟩)
    | (go_at_call 216; have hk := And.right ‹_ ∧ RS (w.heap.size + 1 + 1) 40 W _›; refine (HSS.out _ hk).mono ?_; rintro e w3 ⟨A3, k3, c3, rfl, hk3, hW3, hF3, hb3⟩; have hz3 := hk.1.size; have hr3 := hk.call hb3; obtain ⟨_, _, c0, c1, f0, f1⟩ := hr3.two))

  have hfin := retZ_close hBW (by omega) (by have := HSZ.out; omega) hr3 hk3 hW3 hF3
  obtain ⟨d0, d1, -, -⟩ := (hr3.done (.bool (decide (zz < 0))) (.slice A3 k3 c3)).two
  have HF := Lib.hid hfin
  clear hfin
  go_wp2
  refine bodyPost_ret (v := .agg #[.bool (decide (zz < 0)), .slice A3 k3 c3]) ?_ rfl HF.out
  simp [results, Tryz.results193, go_sem, d0, d1]

 ·clear HNO
  go_wp2_with fail
  have hS : ∀ w', RS (w.heap.size + 1 + 1) 40 W w' → (w'.cell? ⟨w.heap.size, 0, none⟩ = some (.bool neg) ∧ w'.cell? ⟨w.heap.size, 1, none⟩ = some (.slice A n c) ∧ w'.cell? ⟨w.heap.size + 1, 0, none⟩ = some (.bool neg') ∧ w'.cell? ⟨w.heap.size + 1, 1, none⟩ = some (.slice A' n' c')) ∧ RS (w.heap.size + 1 + 1) 40 W w' := fun w' hk => ⟨⟨(hk.blk hB0 (by omega)).cell 0, (hk.blk hB0 (by omega)).cell 1, (hk.blk hB1 (by omega)).cell 0, (hk.blk hB1 (by omega)).cell 1⟩, hk⟩
  have HS := Lib.hid hS
  clear hS
  clear hB0 hB1 hB2
  go_region_held3 (fun w' => (w'.cell? ⟨w.heap.size, 0, none⟩ = some (.bool neg) ∧ w'.cell? ⟨w.heap.size, 1, none⟩ = some (.slice A n c) ∧ w'.cell? ⟨w.heap.size + 1, 0, none⟩ = some (.bool neg') ∧ w'.cell? ⟨w.heap.size + 1, 1, none⟩ = some (.slice A' n' c')) ∧ RS (w.heap.size + 1 + 1) 40 W w')
   (first | (with_reducible refine HS.out _ ?_; with_reducible assumption) | (with_reducible refine HS.out _ (RS.drew ?_); with_reducible assumption) | (with_reducible refine' HS.out _ (RS.drew (And.right ?_)); rotate_left; with_reducible assumption) | (with_reducible refine' HS.out _ (RS.set (And.right ?_) _ _); rotate_left; with_reducible assumption))
   (first
    | (go_at_call_of 141 (Value.slice A n c); have hk := And.right ‹_ ∧ RS (w.heap.size + 1 + 1) 40 W _›; refine (trim_any A n c l _ (HWW.out _ hk).1 hnc (by omega)).mono ?_; rintro e w5 ⟨rfl, rfl⟩)
    | (go_at_call_of 141 (Value.slice A' n' c'); have hk := And.right ‹_ ∧ RS (w.heap.size + 1 + 1) 40 W _›; refine (trim_any A' n' c' l' _ (HWW.out _ hk).2 hnc' (by omega)).mono ?_; rintro e w6 ⟨rfl, rfl⟩)
    | (go_at_call 216; have hk := And.right ‹_ ∧ RS (w.heap.size + 1 + 1) 40 W _›; refine (HSS.out _ hk).mono ?_; rintro e w3 ⟨A3, k3, c3, rfl, hk3, hW3, hF3, hb3⟩; have hz3 := hk.1.size; have hr3 := hk.call hb3; obtain ⟨_, _, c0, c1, f0, f1⟩ := hr3.two))

  have hfin := retZ_close hBW (by omega) (by have := HSZ.out; omega) hr3 hk3 hW3 hF3
  obtain ⟨d0, d1, -, -⟩ := (hr3.done (.bool (decide (zz < 0))) (.slice A3 k3 c3)).two
  have HF := Lib.hid hfin
  clear hfin
  go_wp2
  refine bodyPost_ret (v := .agg #[.bool (decide (zz < 0)), .slice A3 k3 c3]) ?_ rfl HF.out
  simp [results, Tryz.results193, go_sem, d0, d1]

 ·obtain ⟨hv1, hv2, hv3⟩ := HNO.out rfl rfl
  obtain ⟨s, hs⟩ : ∃ s, IntKind.i64.wrap (v1 - v2) = s := ⟨_, rfl⟩
  have hs' : wrap64 (v1 - v2) = s := by rw [← hs, IntKind.wrap_i64]; unfold wrap64; omega
  have hov : decide (0 ≤ bits .and .i64 (bits .xor .i64 v1 v2) (bits .xor .i64 v1 s)) = false := ov_nots v1 v2 s hv1 hv2 (by rw [← hs]; exact wrap_fits _) (by rw [← hs, IntKind.wrap_i64]; unfold Fits at *; omega)

  clear HNO hv1 hv2 hv3
  go_wp2_with fail
  have hS : ∀ w', RS (w.heap.size + 1 + 1) 40 W w' → (w'.cell? ⟨w.heap.size, 0, none⟩ = some (.bool neg) ∧ w'.cell? ⟨w.heap.size, 1, none⟩ = some (.slice A n c) ∧ w'.cell? ⟨w.heap.size + 1, 0, none⟩ = some (.bool neg') ∧ w'.cell? ⟨w.heap.size + 1, 1, none⟩ = some (.slice A' n' c')) ∧ RS (w.heap.size + 1 + 1) 40 W w' := fun w' hk => ⟨⟨(hk.blk hB0 (by omega)).cell 0, (hk.blk hB0 (by omega)).cell 1, (hk.blk hB1 (by omega)).cell 0, (hk.blk hB1 (by omega)).cell 1⟩, hk⟩
  have HS := Lib.hid hS
  clear hS
  clear hB0 hB1 hB2
  go_region_held3 (fun w' => (w'.cell? ⟨w.heap.size, 0, none⟩ = some (.bool neg) ∧ w'.cell? ⟨w.heap.size, 1, none⟩ = some (.slice A n c) ∧ w'.cell? ⟨w.heap.size + 1, 0, none⟩ = some (.bool neg') ∧ w'.cell? ⟨w.heap.size + 1, 1, none⟩ = some (.slice A' n' c')) ∧ RS (w.heap.size + 1 + 1) 40 W w')
   (first | (with_reducible refine HS.out _ ?_; with_reducible assumption) | (with_reducible refine HS.out _ (RS.drew ?_); with_reducible assumption) | (with_reducible refine' HS.out _ (RS.drew (And.right ?_)); rotate_left; with_reducible assumption) | (with_reducible refine' HS.out _ (RS.set (And.right ?_) _ _); rotate_left; with_reducible assumption))
   (first
    | (go_at_call_of 141 (Value.slice A n c); have hk := And.right ‹_ ∧ RS (w.heap.size + 1 + 1) 40 W _›; refine (trim_any A n c l _ (HWW.out _ hk).1 hnc (by omega)).mono ?_; rintro e w5 ⟨rfl, rfl⟩)
    | (go_at_call_of 141 (Value.slice A' n' c'); have hk := And.right ‹_ ∧ RS (w.heap.size + 1 + 1) 40 W _›; refine (trim_any A' n' c' l' _ (HWW.out _ hk).2 hnc' (by omega)).mono ?_; rintro e w6 ⟨rfl, rfl⟩)
    | (go_at_call 216; have hk := And.right ‹_ ∧ RS (w.heap.size + 1 + 1) 40 W _›; refine (HSS.out _ hk).mono ?_; rintro e w3 ⟨A3, k3, c3, rfl, hk3, hW3, hF3, hb3⟩; have hz3 := hk.1.size; have hr3 := hk.call hb3; obtain ⟨_, _, c0, c1, f0, f1⟩ := hr3.two))

  have hfin := retZ_close hBW (by omega) (by have := HSZ.out; omega) hr3 hk3 hW3 hF3
  obtain ⟨d0, d1, -, -⟩ := (hr3.done (.bool (decide (zz < 0))) (.slice A3 k3 c3)).two
  have HF := Lib.hid hfin
  clear hfin
  go_wp2
  refine bodyPost_ret (v := .agg #[.bool (decide (zz < 0)), .slice A3 k3 c3]) ?_ rfl HF.out
  simp [results, Tryz.results193, go_sem, d0, d1]

theorem addOK_any (M : Nat) : AddOK M := fun neg neg' A A' n n' c c' l l' w h h' hnc hnc' hm hm' _ _ => add_any neg neg' A A' n n' c c' l l' w h h' hnc hnc' hm hm'
theorem subOK_any (M : Nat) : SubOK M := fun neg neg' A A' n n' c c' l l' w h h' hnc hnc' hm hm' _ _ => sub_any neg neg' A A' n n' c c' l l' w h h' hnc hnc' hm hm'

end Go.Proofs.YtjajigkacccdgaaGreat
