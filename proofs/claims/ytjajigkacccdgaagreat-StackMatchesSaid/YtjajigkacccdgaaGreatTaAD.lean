/-
Contracts of FromInt64, Int64, Sign, Neg and Cmp of package whole. No statement of the seat is proved here; no conditions beyond those of each theorem.
-/
import Derived.Test.YtjajigkacccdgaaGreatTaAC
import Derived.Deep.RegionHeld3
namespace Go.Proofs.YtjajigkacccdgaaGreat
set_option linter.unusedVariables false
set_option linter.unusedSimpArgs false
open Go.RowKit
open Wd


set_option maxHeartbeats 400000 in
theorem fromInt64_any (z : Int) (w : World) (h1 : -9223372036854775808 ≤ z) (h2 : z ≤ 9223372036854775807) :
  Calls Tryz.prog 88 #[.int .i64 z] w (RetZ w z) := by
 by_cases hz : z < 0
 ·have hw : IntKind.u64.wrap (-(IntKind.u64.wrap z)) = (z.natAbs : Int) := by
   rw [IntKind.wrap_u64, IntKind.wrap_u64]; omega
  have HW := Lib.hid hw
  clear hw
  have hsg : sg true z.natAbs = z := by unfold sg; simp; omega
  have HS := Lib.hid hsg
  clear hsg
  go_enter Tryz.func88, Tryz.ntmps88
  go_wp2_with fail
  rw [HW.out]
  have hg := Blk.new w 40 #[.bool false, .slice none 0 0]
  refine (small_any true z.natAbs _ (by omega)).mono ?_
  rw [HS.out]
  rintro e w1 ⟨A, k, c, rfl, hk, hW, hF, hB⟩
  rw [World.size_alloc] at hF
  have hg1 := hg.below hB (by simp)
  have hg2 := hg1.set2 (.bool (decide (z < 0))) (.slice A k c)
  have hb2 := below_set2 (below_of_alloc hB) (Nat.le_refl w.heap.size) (.bool (decide (z < 0))) (.slice A k c)
  obtain ⟨hW2, hF2⟩ := store2_far (.bool (decide (z < 0))) (.slice A k c) hW hF
  obtain ⟨c0, c1, f0, f1⟩ := hg1.two
  clear hg hB HW HS hW hF
  have HZ := Lib.hid hz
  clear hz
  go_wp2
  obtain ⟨d0, d1, -, -⟩ := hg2.two
  refine bodyPost_ret (v := .agg #[.bool (decide (z < 0)), .slice A k c]) ?_ rfl ⟨A, k, c, rfl, hk, hW2, hF2, hb2⟩
  simp [results, Tryz.results88, go_sem, d0, d1]
 ·obtain ⟨n, rfl⟩ : ∃ n : Nat, z = n := ⟨z.natAbs, by omega⟩
  have hsg : sg false n = n := by unfold sg; simp
  have HS := Lib.hid hsg
  clear hsg
  go_enter Tryz.func88, Tryz.ntmps88
  go_wp2_with fail
  have hg := Blk.new w 40 #[.bool false, .slice none 0 0]
  refine (small_any false n _ (by omega)).mono ?_
  rw [HS.out]
  rintro e w1 ⟨A, k, c, rfl, hk, hW, hF, hB⟩
  generalize (n : Int) = z at *
  rw [World.size_alloc] at hF
  have hg1 := hg.below hB (by simp)
  have hg2 := hg1.set2 (.bool (decide (z < 0))) (.slice A k c)
  have hb2 := below_set2 (below_of_alloc hB) (Nat.le_refl w.heap.size) (.bool (decide (z < 0))) (.slice A k c)
  obtain ⟨hW2, hF2⟩ := store2_far (.bool (decide (z < 0))) (.slice A k c) hW hF
  obtain ⟨c0, c1, f0, f1⟩ := hg1.two
  clear hg hB HS hW hF
  have HZ := Lib.hid hz
  clear hz
  go_wp2
  obtain ⟨d0, d1, -, -⟩ := hg2.two
  refine bodyPost_ret (v := .agg #[.bool (decide (z < 0)), .slice A k c]) ?_ rfl ⟨A, k, c, rfl, hk, hW2, hF2, hb2⟩
  simp [results, Tryz.results88, go_sem, d0, d1]

set_option maxHeartbeats 400000 in
theorem sign_any (neg : Bool) (A : Option Addr) (n c : Nat) (l : List Nat) (w : World) (h : Wat w A n l) (hnc : n ≤ c) (hm : n ≤ 9223372036854775807) :
  Calls Tryz.prog 94 #[.agg #[.bool neg, .slice A n c]] w fun e w' => e = .returned (.int .i64 (cmpI (sg neg (val l)) 0)) ∧ Below w.heap.size w w' := by
 by_cases h0 : val l = 0
 ·have e : cmpI (sg neg (val l)) 0 = 0 := by rw [h0, sg_zero]; rfl
  have hd : digs (val l) = [] := by rw [h0, digs_zero]
  have HD := Lib.hid hd
  have E := Lib.hid e
  clear e hd h0
  rw [E.out]
  go_enter Tryz.func94, Tryz.ntmps94
  go_wp2_with fail
  refine (trim_any A n c l _ (h.alloc _) hnc hm).mono ?_
  rw [HD.out]
  rintro e w' ⟨rfl, rfl⟩
  go_wp2
  go_ret
  exact ⟨rfl, (Below.refl _ _).alloc (Nat.le_refl _) _⟩
 ·have hlen : (digs (val l)).length ≠ 0 := fun hh => h0 (digs_nil (List.eq_nil_of_length_eq_zero hh))
  have e : cmpI (sg neg (val l)) 0 = if neg then -1 else 1 := by
   unfold sg; cases neg
   ·exact cmpI_gt (by simp; omega)
   ·exact cmpI_lt (by simp; omega)
  have E := Lib.hid e
  clear e
  generalize hk : (digs (val l)).length = k at *
  have HK := Lib.hid hk
  clear hk
  have hk0 : ((k : Int) == 0) = false := by simpa using hlen
  cases neg
  all_goals
   rw [E.out]
   go_enter Tryz.func94, Tryz.ntmps94
   go_wp2_with fail
   refine (trim_any A n c l _ (h.alloc _) hnc hm).mono ?_
   rw [HK.out]
   rintro e w' ⟨rfl, rfl⟩
   go_wp2
   go_ret
   exact ⟨rfl, (Below.refl _ _).alloc (Nat.le_refl _) _⟩

theorem cmpI_flip (a b : Nat) : cmpI (-(a : Int)) (-(b : Int)) = cmpI b a := by
 unfold cmpI
 split <;> split <;> (try split) <;> (try split) <;> omega
theorem sg_of_neg {neg : Bool} {n : Nat} (h : sg neg n < 0) : sg neg n = -(n : Int) := by
 unfold sg at *; cases neg <;> simp at * <;> omega
theorem sg_of_pos {neg : Bool} {n : Nat} (h : 0 ≤ sg neg n) : sg neg n = (n : Int) := by
 unfold sg at *; cases neg <;> simp at * <;> omega
theorem cmp_cases (a b : Int) : (cmpI a 0 < cmpI b 0 ∧ cmpI a b = -1) ∨ (cmpI b 0 < cmpI a 0 ∧ cmpI a b = 1) ∨ (cmpI a 0 = cmpI b 0 ∧ cmpI a 0 < 0 ∧ a < 0 ∧ b < 0) ∨ (cmpI a 0 = cmpI b 0 ∧ 0 ≤ cmpI a 0 ∧ 0 ≤ a ∧ 0 ≤ b) := by
 unfold cmpI
 by_cases h1 : a < 0 <;> by_cases h2 : b < 0 <;> by_cases h3 : 0 < a <;> by_cases h4 : 0 < b <;> by_cases h5 : a < b <;> by_cases h6 : b < a <;> simp [h1, h2, h3, h4, h5, h6] <;> omega

theorem quiet_left {P : Program} {f : FuncId} {args : Array Value} {w : World} {n : Nat} {v : Value}
  (h : Calls P f args (w.drewN n) fun e w' => e = .returned v ∧ w.drewN n = w') : Calls P f args (w.drewN n) fun e w'' => e = .returned v ∧ ∃ m, w'' = w.drewN m :=
 h.mono fun _ _ ⟨he, hm⟩ => ⟨he, n, hm.symm⟩

set_option maxHeartbeats 1000000 in
theorem cmp_any (neg neg' : Bool) (A A' : Option Addr) (n n' c c' : Nat) (l l' : List Nat) (w : World) (h : Wat w A n l) (h' : Wat w A' n' l') (hnc : n ≤ c) (hnc' : n' ≤ c') (hm : n ≤ 9223372036854775807) (hm' : n' ≤ 9223372036854775807) :
  Calls Tryz.prog 96 #[.agg #[.bool neg, .slice A n c], .agg #[.bool neg', .slice A' n' c']] w fun e w' => e = .returned (.int .i64 (cmpI (sg neg (val l)) (sg neg' (val l')))) ∧ Below w.heap.size w w' := by
 generalize hx : cmpI (sg neg (val l)) 0 = x
 generalize hy : cmpI (sg neg' (val l')) 0 = y
 have HX := Lib.hid hx
 have HY := Lib.hid hy
 clear hx hy
 go_enter Tryz.func96, Tryz.ntmps96
 go_wp2_with fail
 have hA := (Blk.new w 40 #[.bool neg, .slice A n c]).alloc (.cells #[.bool neg', .slice A' n' c'] 40)
 have hA' := Blk.new (w.alloc (.cells #[.bool neg, .slice A n c] 40)) 40 #[.bool neg', .slice A' n' c']
 rw [World.size_alloc] at hA'
 have hBW : Below w.heap.size w ((w.alloc (.cells #[.bool neg, .slice A n c] 40)).alloc (.cells #[.bool neg', .slice A' n' c'] 40)) := ((Below.refl _ _).alloc (Nat.le_refl _) _).alloc (by simp) _
 generalize (w.alloc (.cells #[.bool neg, .slice A n c] 40)).alloc (.cells #[.bool neg', .slice A' n' c'] 40) = W at *
 have hS : ∀ w', Kp W w' → (w'.cell? ⟨w.heap.size, 0, none⟩ = some (.bool neg) ∧ w'.cell? ⟨w.heap.size, 1, none⟩ = some (.slice A n c) ∧ w'.cell? ⟨w.heap.size + 1, 0, none⟩ = some (.bool neg') ∧ w'.cell? ⟨w.heap.size + 1, 1, none⟩ = some (.slice A' n' c')) ∧ Kp W w' := fun w' hk =>
  ⟨⟨(hk.blk hA).cell 0, (hk.blk hA).cell 1, (hk.blk hA').cell 0, (hk.blk hA').cell 1⟩, hk⟩
 have HS := Lib.hid hS
 obtain ⟨⟨s0, s1, s2, s3⟩, s4⟩ := hS W (Kp.refl W)
 have hw1 := h.below hBW
 have hw2 := h'.below hBW
 clear hS hA hA'
 go_region_held3 (fun w' => (w'.cell? ⟨w.heap.size, 0, none⟩ = some (.bool neg) ∧ w'.cell? ⟨w.heap.size, 1, none⟩ = some (.slice A n c) ∧ w'.cell? ⟨w.heap.size + 1, 0, none⟩ = some (.bool neg') ∧ w'.cell? ⟨w.heap.size + 1, 1, none⟩ = some (.slice A' n' c')) ∧ Kp W w')
  (first | exact HS.out _ (by assumption) | exact HS.out _ (Kp.drew (by assumption)) | exact HS.out _ (Kp.drew (And.right (by assumption))))
  (first
   | (go_at_call_of 94 (Value.agg #[.bool neg, .slice A n c]); have hk := And.right ‹(_ ∧ _ ∧ _ ∧ _) ∧ Kp W _›; refine (sign_any neg A n c l _ (hw1.below hk) hnc hm).mono ?_; rw [HX.out]; rintro e w1 ⟨rfl, hb⟩; have hk1 := hk.trans hb; clear hk hb)
   | (go_at_call_of 94 (Value.agg #[.bool neg', .slice A' n' c']); have hk := And.right ‹(_ ∧ _ ∧ _ ∧ _) ∧ Kp W _›; refine (sign_any neg' A' n' c' l' _ (hw2.below hk) hnc' hm').mono ?_; rw [HY.out]; rintro e w1 ⟨rfl, hb⟩; have hk2 := hk.trans hb; clear hk hb))
 rename_i hHeld
 obtain ⟨⟨t0, t1, t2, t3⟩, hkp⟩ := hHeld
 have hB1 : Below w.heap.size w w1 := hBW.trans (Below.mono hkp hBW.size)
 have hv1 := h.below hB1
 have hv2 := h'.below hB1
 clear HS s0 s1 s2 s3 s4 hw1 hw2 hk1 hk2 hBW hkp
 have hx : x = cmpI (sg neg (val l)) 0 := HX.out.symm
 have hy : y = cmpI (sg neg' (val l')) 0 := HY.out.symm
 rcases cmp_cases (sg neg (val l)) (sg neg' (val l')) with ⟨h1, h2⟩ | ⟨h1, h2⟩ | ⟨h1, h2, h3, h4⟩ | ⟨h1, h2, h3⟩
 ·rw [← hx, ← hy] at h1
  have E := Lib.hid h2
  clear hx hy h2
  go_wp2
  go_ret
  rw [E.out]
  exact ⟨rfl, hB1⟩
 ·rw [← hx, ← hy] at h1
  have E := Lib.hid h2
  clear hx hy h2
  go_wp2
  go_ret
  rw [E.out]
  exact ⟨rfl, hB1⟩
 ·rw [← hx, ← hy] at h1
  rw [← hx] at h2
  subst h1
  have e : cmpI (val l') (val l) = cmpI (sg neg (val l)) (sg neg' (val l')) := by
   have a1 := sg_of_neg h3
   have a2 := sg_of_neg h4
   rw [a1, a2]; exact (cmpI_flip _ _).symm
  have E := Lib.hid e
  clear e hx hy h3 h4 HX HY
  have T1 := Lib.hid (fun W (hb : Below w1.heap.size w1 W) => trim_any A n c l W (hv1.below hb) hnc hm)
  have T2 := Lib.hid (fun W (hb : Below w1.heap.size w1 W) => trim_any A' n' c' l' W (hv2.below hb) hnc' hm')
  have T3 := Lib.hid (fun W (hb : Below w1.heap.size w1 W) => compareWords_any A' A _ _ c' c (val l') (val l) W (hv2.below hb).trim (hv1.below hb).trim (by have := hv2.trim_le; omega) (by have := hv1.trim_le; omega))
  go_wp2_with fail
  go_quiet ((first | (go_at_call_of 141 (Value.slice A n c); exact quiet_left (T1.out _ (belowN _ _))) | (go_at_call_of 141 (Value.slice A' n' c'); exact quiet_left (T2.out _ (belowN _ _))) | (go_at_call 142; exact Calls.quiet_of (T3.out _ (belowN _ _)))))
  go_wp2
  go_ret
  rw [← E.out]
  exact ⟨rfl, below_drewN hB1 _⟩
 ·rw [← hx, ← hy] at h1
  rw [← hx] at h2
  subst h1
  have e : cmpI (val l) (val l') = cmpI (sg neg (val l)) (sg neg' (val l')) := by
   have a1 := sg_of_pos h3.1
   have a2 := sg_of_pos h3.2
   rw [a1, a2]
  have E := Lib.hid e
  clear e hx hy h3 HX HY
  have T1 := Lib.hid (fun W (hb : Below w1.heap.size w1 W) => trim_any A n c l W (hv1.below hb) hnc hm)
  have T2 := Lib.hid (fun W (hb : Below w1.heap.size w1 W) => trim_any A' n' c' l' W (hv2.below hb) hnc' hm')
  have T3 := Lib.hid (fun W (hb : Below w1.heap.size w1 W) => compareWords_any A A' _ _ c c' (val l) (val l') W (hv1.below hb).trim (hv2.below hb).trim (by have := hv1.trim_le; omega) (by have := hv2.trim_le; omega))
  go_wp2_with fail
  go_quiet ((first | (go_at_call_of 141 (Value.slice A n c); exact quiet_left (T1.out _ (belowN _ _))) | (go_at_call_of 141 (Value.slice A' n' c'); exact quiet_left (T2.out _ (belowN _ _))) | (go_at_call 142; exact Calls.quiet_of (T3.out _ (belowN _ _)))))
  go_wp2
  go_ret
  rw [← E.out]
  exact ⟨rfl, below_drewN hB1 _⟩

end Go.Proofs.YtjajigkacccdgaaGreat
