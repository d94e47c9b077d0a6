/-
The reference of layer 2 at rationals of any size: Least, Of, Neg, Sign. The reference of layer 2 at rationals of any size: Of, Neg, Sign. No statement of the seat is proved here; no conditions beyond those of each theorem.
-/
import Derived.Test.YtodkhjihkkmplaaGreatLPY
import Derived.Test.YtodkhjihkkmplaaGreatLPN
import Derived.Test.YtodkhjihkkmplaaGreatLPL
namespace Go.Proofs.YtodkhjihkkmplaaGreat
set_option linter.unusedVariables false
set_option linter.unusedSimpArgs false
open Go.RowKit
open Wd

theorem RS4.lt {g : Nat} {t : TypeId} {W w : World} (h : RS4 g t W w) : g < w.heap.size := by
 obtain ⟨_, _, _, _, _, hx⟩ := h
 exact hx.lt
theorem zk_ofN {w : World} {A : Option Addr} {n v : Nat} (h : Wat w A n (digs v)) (hl : (hd v).length ≤ 6000000000) : ZK w false A n (v : Int) := by
 have := zk_of (z := (v : Int)) (w := w) (A := A) (n := n) (by rw [Int.natAbs_natCast]; exact h) (by rw [Int.natAbs_natCast]; exact hl)
 rwa [show decide ((v : Int) < 0) = false by simp] at this
theorem pb_half {v k : Nat} (h : v < PB k) (hk : k ≤ 18) : (hd v).length ≤ 6000000000 := by
 have h1 := half_len h
 have : 3 ^ k ≤ 3 ^ 18 := Nat.pow_le_pow_right (by decide) hk
 have h18 : (3 : Nat) ^ 18 = 387420489 := by decide
 omega
theorem QIn.qz {w : World} {an bn : Bool} {A B : Option Addr} {n c m d : Nat} {na da : Int} (h : QIn w an A n c bn B m d na da) (h1 : (hd (qnum na da).natAbs).length ≤ 6000000000) (h2 : (hd (qden da).natAbs).length ≤ 6000000000) : QZ w an A n bn B m na da := by
 obtain ⟨l, l', a1, a2, a3, a4, a5, a6, a7, a8⟩ := h
 refine ⟨⟨l, a1, a5, a7, ?_⟩, l', a2, a6, a8, ?_⟩
 ·rwa [show (qnum na da).natAbs = na.natAbs by unfold qnum; split <;> omega] at h1
 ·by_cases h0 : da = 0
  ·subst h0
   rw [show (0 : Int).natAbs = 0 from rfl, hd_zero]
   exact Nat.zero_le _
  ·rwa [show (qden da).natAbs = da.natAbs by unfold qden; rw [if_neg h0]; split <;> omega] at h2
/-- A rational of a level lies as two integers whose parts are small enough for the reference. -/
theorem QK.qz {k : Nat} {w : World} {an bn : Bool} {A B : Option Addr} {n c m d : Nat} {q : Rat} (h : QK k w an A n c bn B m d q) (hk : k ≤ 18) :
  ∃ na da, QZ w an A n bn B m na da ∧ (qnum na da).natAbs < PB k ∧ (qden da).natAbs < PB k ∧ q = mkRat (qnum na da) (qden da).natAbs ∧ (qden da).natAbs ≠ 0 := by
 obtain ⟨na, da, h1, h2, h3, h4⟩ := h
 exact ⟨na, da, h1.qz (pb_half h2 hk) (pb_half h3 hk), h2, h3, h4, den_nz da⟩

set_option maxRecDepth 100000 in
set_option maxHeartbeats 2000000 in
theorem rleastq_k {k : Nat} (hk : k ≤ 18) (an bn : Bool) (A B : Option Addr) (n c m d : Nat) (q : Rat) (w : World) (h : QK k w an A n c bn B m d q) :
  Calls Tryz.prog 51 #[.agg #[.bool an, .slice A n c, .bool bn, .slice B m d]] w (RetQ w q) := by
 obtain ⟨na, da, hQ, h1, h2, hq, h0⟩ := h.qz hk
 have LEN4 := Lib.hid (pb_half h1 hk)
 have LEN5 := Lib.hid (pb_half h2 hk)
 clear h h1 h2
 go_enter Tryz.func51, Tryz.ntmps51
 go_wp2_with fail
 obtain ⟨hB0, hB1, hBW, hsz⟩ := pre2 w 31 #[.bool an, .slice A n c, .bool bn, .slice B m d] 31 #[.bool false, .slice none 0 0, .bool false, .slice none 0 0]
 generalize (w.alloc (.cells #[.bool an, .slice A n c, .bool bn, .slice B m d] 31)).alloc (.cells #[.bool false, .slice none 0 0, .bool false, .slice none 0 0] 31) = W at *
 have HSZ := Lib.hid hsz
 clear hsz
 have TN := Lib.hid (fun W' (hW : Below (w.heap.size + 1) W W') => rnum_z an bn A B n c m d na da W' (hQ.below (hBW.trans (hW.mono (by omega)))))
 have TD := Lib.hid (fun W' (hW : Below (w.heap.size + 1) W W') => rden_z an bn A B n c m d na da W' (hQ.below (hBW.trans (hW.mono (by omega)))))
 have TO := Lib.hid (fun W' (s : Bool) (C D : Option Addr) (j e j' e' : Nat) (hC : ZK W' s C j (qnum na da)) (hD : ZK W' false D j' ((qden da).natAbs : Int)) => rover_z s C D j e j' e' (qnum na da) (qden da).natAbs W' hC hD h0)
 rw [← hq] at TO
 generalize qnum na da = z1 at *
 generalize (qden da).natAbs = v1 at *
 have s5 := RS4.start hB1
 clear hQ hq h0
 have hS : ∀ w', RS4 (w.heap.size + 1) 31 W w' → (w'.cell? ⟨w.heap.size, 0, none⟩ = some (.bool an) ∧ w'.cell? ⟨w.heap.size, 1, none⟩ = some (.slice A n c) ∧ w'.cell? ⟨w.heap.size, 2, none⟩ = some (.bool bn) ∧ w'.cell? ⟨w.heap.size, 3, none⟩ = some (.slice B m d)) ∧ RS4 (w.heap.size + 1) 31 W w' := fun w' hk => ⟨⟨(hk.blk hB0 (by omega)).cell 0, (hk.blk hB0 (by omega)).cell 1, (hk.blk hB0 (by omega)).cell 2, (hk.blk hB0 (by omega)).cell 3⟩, hk⟩
 have HS := Lib.hid hS
 clear hS
 go_region_held3 (fun w' => (w'.cell? ⟨w.heap.size, 0, none⟩ = some (.bool an) ∧ w'.cell? ⟨w.heap.size, 1, none⟩ = some (.slice A n c) ∧ w'.cell? ⟨w.heap.size, 2, none⟩ = some (.bool bn) ∧ w'.cell? ⟨w.heap.size, 3, none⟩ = some (.slice B m d)) ∧ RS4 (w.heap.size + 1) 31 W w')
  (first | (with_reducible refine HS.out _ ?_; with_reducible assumption) | (with_reducible refine HS.out _ (RS4.drew ?_); with_reducible assumption) | (with_reducible refine' HS.out _ (RS4.drew (And.right ?_)); rotate_left; with_reducible assumption) | (with_reducible refine' HS.out _ (RS4.set (And.right ?_) _ _ _ _); rotate_left; with_reducible assumption))
  (first
   | (go_at_call 67; have hk := And.right ‹_ ∧ RS4 (w.heap.size + 1) 31 W _›; refine (TN.out _ hk.1).mono ?_; rintro e v4 ⟨A4, k4, c4, rfl, hk4, hW4, hF4, hb4⟩; have hZ4 := zk_of hW4 (LEN4.out); have hr := hk.call hb4; (try have hZ5 := hZ5.below hb4); clear hk hb4 hW4 hF4 hk4)
   | (go_at_call 79; have hk := And.right ‹_ ∧ RS4 (w.heap.size + 1) 31 W _›; refine (TD.out _ hk.1).mono ?_; rintro e v5 ⟨A5, k5, c5, rfl, hk5, hW5, hF5, hb5⟩; have hZ5 := zk_ofN hW5 (LEN5.out); have hr := hk.call hb5; (try have hZ4 := hZ4.below hb5); clear hk hb5 hW5 hF5 hk5)
   | (go_at_call 77; have hk := And.right ‹_ ∧ RS4 (w.heap.size + 1) 31 W _›; refine (TO.out _ _ _ _ _ _ _ _ hZ4 hZ5).mono ?_; rintro e v9 ⟨A9, k9, c9, A10, k10, c10, rfl, hk9, hk10, hW9, hW10, hF9, hF10, hb9⟩; have hl9 := RS4.lt hk; have hr9 := hk.call hb9; obtain ⟨_, _, _, _, f0, f1, f2, f3, f4, f5, f6, f7⟩ := hr9.four))
 all_goals
  have hfin := retQ_close hBW (by omega) (by have := HSZ.out; have h9 := hl9; omega) hr9 hk9 hk10 hW9 hW10 hF9 hF10
  obtain ⟨d0, d1, d2, d3, -, -, -, -⟩ := (hr9.done (.bool (decide ((q).num < 0))) (.slice A9 k9 c9) (.bool false) (.slice A10 k10 c10)).four
  have HF := Lib.hid hfin
  clear hfin hl9 hr9 TN TD TO hZ4 hZ5
  go_wp2
  refine bodyPost_ret (v := .agg #[.bool (decide ((q).num < 0)), .slice A9 k9 c9, .bool false, .slice A10 k10 c10]) ?_ rfl HF.out
  simp [results, Tryz.results51, go_sem, d0, d1, d2, d3]

end Go.Proofs.YtodkhjihkkmplaaGreat

namespace Go.Proofs.YtodkhjihkkmplaaGreat
set_option linter.unusedVariables false
set_option linter.unusedSimpArgs false
open Go.RowKit
open Wd

set_option maxRecDepth 100000 in
set_option maxHeartbeats 2000000 in
theorem rnegq_k {k : Nat} (hk : k ≤ 18) (an bn : Bool) (A B : Option Addr) (n c m d : Nat) (q : Rat) (w : World) (h : QK k w an A n c bn B m d q) :
  Calls Tryz.prog 65 #[.agg #[.bool an, .slice A n c, .bool bn, .slice B m d]] w (RetQ w (-q)) := by
 obtain ⟨na, da, hQ, h1, h2, hq, h0⟩ := h.qz hk
 have LEN4 := Lib.hid (pb_half h1 hk)
 have LEN5 := Lib.hid (pb_half h2 hk)
 have LEN6 := Lib.hid (show (hd (-(qnum na da)).natAbs).length ≤ 6000000000 by rw [Int.natAbs_neg]; exact LEN4.out)
 have hq2 : -q = mkRat (-(qnum na da)) (qden da).natAbs := by rw [hq]; exact Rat.neg_mkRat _ _
 generalize -q = y at *
 clear h h1 h2 hq
 go_enter Tryz.func65, Tryz.ntmps65
 go_wp2_with fail
 obtain ⟨hB0, hB1, hBW, hsz⟩ := pre2 w 31 #[.bool an, .slice A n c, .bool bn, .slice B m d] 31 #[.bool false, .slice none 0 0, .bool false, .slice none 0 0]
 generalize (w.alloc (.cells #[.bool an, .slice A n c, .bool bn, .slice B m d] 31)).alloc (.cells #[.bool false, .slice none 0 0, .bool false, .slice none 0 0] 31) = W at *
 have HSZ := Lib.hid hsz
 clear hsz
 have TN := Lib.hid (fun W' (hW : Below (w.heap.size + 1) W W') => rnum_z an bn A B n c m d na da W' (hQ.below (hBW.trans (hW.mono (by omega)))))
 have TD := Lib.hid (fun W' (hW : Below (w.heap.size + 1) W W') => rden_z an bn A B n c m d na da W' (hQ.below (hBW.trans (hW.mono (by omega)))))
 have TG := Lib.hid (fun W' (s : Bool) (C : Option Addr) (j e : Nat) (hC : ZK W' s C j (qnum na da)) => rneg_z s C j e (qnum na da) W' hC)
 have TO := Lib.hid (fun W' (s : Bool) (C D : Option Addr) (j e j' e' : Nat) (hC : ZK W' s C j (-(qnum na da))) (hD : ZK W' false D j' ((qden da).natAbs : Int)) => rover_z s C D j e j' e' (-(qnum na da)) (qden da).natAbs W' hC hD h0)
 rw [← hq2] at TO
 generalize -(qnum na da) = z2 at *
 generalize qnum na da = z1 at *
 generalize (qden da).natAbs = v1 at *
 have s5 := RS4.start hB1
 clear hQ hq2 h0
 have hS : ∀ w', RS4 (w.heap.size + 1) 31 W w' → (w'.cell? ⟨w.heap.size, 0, none⟩ = some (.bool an) ∧ w'.cell? ⟨w.heap.size, 1, none⟩ = some (.slice A n c) ∧ w'.cell? ⟨w.heap.size, 2, none⟩ = some (.bool bn) ∧ w'.cell? ⟨w.heap.size, 3, none⟩ = some (.slice B m d)) ∧ RS4 (w.heap.size + 1) 31 W w' := fun w' hk => ⟨⟨(hk.blk hB0 (by omega)).cell 0, (hk.blk hB0 (by omega)).cell 1, (hk.blk hB0 (by omega)).cell 2, (hk.blk hB0 (by omega)).cell 3⟩, hk⟩
 have HS := Lib.hid hS
 clear hS
 go_region_held3 (fun w' => (w'.cell? ⟨w.heap.size, 0, none⟩ = some (.bool an) ∧ w'.cell? ⟨w.heap.size, 1, none⟩ = some (.slice A n c) ∧ w'.cell? ⟨w.heap.size, 2, none⟩ = some (.bool bn) ∧ w'.cell? ⟨w.heap.size, 3, none⟩ = some (.slice B m d)) ∧ RS4 (w.heap.size + 1) 31 W w')
  (first | (with_reducible refine HS.out _ ?_; with_reducible assumption) | (with_reducible refine HS.out _ (RS4.drew ?_); with_reducible assumption) | (with_reducible refine' HS.out _ (RS4.drew (And.right ?_)); rotate_left; with_reducible assumption) | (with_reducible refine' HS.out _ (RS4.set (And.right ?_) _ _ _ _); rotate_left; with_reducible assumption))
  (first
   | (go_at_call 67; have hk := And.right ‹_ ∧ RS4 (w.heap.size + 1) 31 W _›; refine (TN.out _ hk.1).mono ?_; rintro e v4 ⟨A4, k4, c4, rfl, hk4, hW4, hF4, hb4⟩; have hZ4 := zk_of hW4 (LEN4.out); have hr := hk.call hb4; (try have hZ5 := hZ5.below hb4); (try have hZ6 := hZ6.below hb4); clear hk hb4 hW4 hF4 hk4)
   | (go_at_call 79; have hk := And.right ‹_ ∧ RS4 (w.heap.size + 1) 31 W _›; refine (TD.out _ hk.1).mono ?_; rintro e v5 ⟨A5, k5, c5, rfl, hk5, hW5, hF5, hb5⟩; have hZ5 := zk_ofN hW5 (LEN5.out); have hr := hk.call hb5; (try have hZ4 := hZ4.below hb5); (try have hZ6 := hZ6.below hb5); clear hk hb5 hW5 hF5 hk5)
   | (go_at_call 96; have hk := And.right ‹_ ∧ RS4 (w.heap.size + 1) 31 W _›; refine (TG.out _ _ _ _ _ hZ4).mono ?_; rintro e v6 ⟨A6, k6, c6, rfl, hk6, hW6, hF6, hb6⟩; have hZ6 := zk_of hW6 (LEN6.out); have hr := hk.call hb6; (try have hZ5 := hZ5.below hb6); clear hk hb6 hW6 hF6 hk6)
   | (go_at_call 77; have hk := And.right ‹_ ∧ RS4 (w.heap.size + 1) 31 W _›; refine (TO.out _ _ _ _ _ _ _ _ hZ6 hZ5).mono ?_; rintro e v9 ⟨A9, k9, c9, A10, k10, c10, rfl, hk9, hk10, hW9, hW10, hF9, hF10, hb9⟩; have hl9 := RS4.lt hk; have hr9 := hk.call hb9; obtain ⟨_, _, _, _, f0, f1, f2, f3, f4, f5, f6, f7⟩ := hr9.four))
 all_goals
  have hfin := retQ_close hBW (by omega) (by have := HSZ.out; have h9 := hl9; omega) hr9 hk9 hk10 hW9 hW10 hF9 hF10
  obtain ⟨d0, d1, d2, d3, -, -, -, -⟩ := (hr9.done (.bool (decide ((y).num < 0))) (.slice A9 k9 c9) (.bool false) (.slice A10 k10 c10)).four
  have HF := Lib.hid hfin
  clear hfin hl9 hr9 TN TD TO TG hZ5 hZ6
  go_wp2
  refine bodyPost_ret (v := .agg #[.bool (decide ((y).num < 0)), .slice A9 k9 c9, .bool false, .slice A10 k10 c10]) ?_ rfl HF.out
  simp [results, Tryz.results65, go_sem, d0, d1, d2, d3]

set_option maxHeartbeats 1000000 in
theorem rsignq_k {k : Nat} (hk : k ≤ 18) (an bn : Bool) (A B : Option Addr) (n c m d : Nat) (q : Rat) (w : World) (h : QK k w an A n c bn B m d q) :
  Calls Tryz.prog 40 #[.agg #[.bool an, .slice A n c, .bool bn, .slice B m d]] w fun e w' => e = .returned (.int .i64 (sgnQ q)) ∧ Below w.heap.size w w' := by
 obtain ⟨na, da, hQ, h1, h2, hq, h0⟩ := h.qz hk
 have hs : sgnQ q = cmpI (qnum na da) 0 := by rw [hq]; exact sgn_mk _ _ (qden_pos da)
 have LEN4 := Lib.hid (pb_half h1 hk)
 have HS := Lib.hid hs
 clear h h1 h2 hs hq
 go_enter Tryz.func40, Tryz.ntmps40
 go_wp2_with fail
 obtain ⟨hB0, hBW, hsz⟩ := pre1 w 31 #[.bool an, .slice A n c, .bool bn, .slice B m d]
 generalize w.alloc (.cells #[.bool an, .slice A n c, .bool bn, .slice B m d] 31) = W at *
 have HSZ := Lib.hid hsz
 clear hsz
 have TN := Lib.hid (rnum_z an bn A B n c m d na da W (hQ.below hBW))
 obtain ⟨p0, p1, p2, p3, -, -, -, -⟩ := hB0.four
 generalize qnum na da = z1 at *
 clear hQ h0 hB0
 go_wp2_with fail
 refine TN.out.mono ?_
 rintro e w1 ⟨A3, k3, c3, rfl, hk3, hW3, hF3, hb3⟩
 have T := Lib.hid (rsign_z (decide (z1 < 0)) A3 k3 c3 z1 w1 (zk_of hW3 LEN4.out))
 have HB := Lib.hid (hBW.trans (hb3.mono hBW.size))
 generalize decide (z1 < 0) = s1 at *
 clear hW3 hF3 hb3 TN hBW
 go_wp2_with fail
 refine T.out.mono ?_
 rintro e w2 ⟨rfl, hb2⟩
 have HF := Lib.hid (HB.out.trans (hb2.mono HB.out.size))
 clear hb2 T
 go_wp2
 go_ret
 exact ⟨by rw [HS.out]; rfl, HF.out⟩

set_option maxHeartbeats 1000000 in
theorem rofq (na da : Int) (w : World) (h1 : na.natAbs ≤ 9223372036854775807) (h2 : da.natAbs ≤ 9223372036854775807) :
  Calls Tryz.prog 22 #[.int .i64 na, .int .i64 da] w (RetQ w (mkRat (qnum na da) (qden da).natAbs)) := by
 have T1 := Lib.hid (fun W => rfrom_any na W (by omega) (by omega))
 have T2 := Lib.hid (fun W => rfrom_any da W (by omega) (by omega))
 have TL := Lib.hid (fun (W : World) (A B : Option Addr) (n c m d : Nat) (hA : Wat W A n (digs na.natAbs)) (hB : Wat W B m (digs da.natAbs)) (hc : n ≤ c) (hd : m ≤ d) =>
  rleastq_k (k := 0) (by omega) (decide (na < 0)) (decide (da < 0)) A B n c m d (mkRat (qnum na da) (qden da).natAbs) W (by
   have l1 : (digs na.natAbs).length ≤ 2 := digs_len_le.2 (by rw [pow2]; omega)
   have l2 : (digs da.natAbs).length ≤ 2 := digs_len_le.2 (by rw [pow2]; omega)
   have e1 := hA.1
   have e2 := hB.1
   have b1 : (qnum na da).natAbs = na.natAbs := by unfold qnum; split <;> omega
   have b2 : (qden da).natAbs ≤ na.natAbs + da.natAbs + 1 := by unfold qden; split <;> (try split) <;> omega
   have b3 := pb_zero
   exact ⟨na, da, ⟨_, _, hA, hB, hc, hd, by omega, by omega, by rw [val_digs, sg_self], by rw [val_digs, sg_self]⟩, by omega, by omega, rfl⟩))
 generalize mkRat (qnum na da) (qden da).natAbs = y at *
 clear h1 h2
 go_enter Tryz.func22, Tryz.ntmps22
 go_wp2_with fail
 obtain ⟨hB0, hBW, hsz⟩ := pre1 w 31 #[.bool false, .slice none 0 0, .bool false, .slice none 0 0]
 generalize w.alloc (.cells #[.bool false, .slice none 0 0, .bool false, .slice none 0 0] 31) = W at *
 have HSZ := Lib.hid hsz
 clear hsz
 have hr1 := RS4.start hB0
 clear hB0
 refine (T1.out _).mono ?_
 rintro e w1 ⟨A3, k3, c3, rfl, hk3, hW3, hF3, hb3⟩
 go_wp2_with fail
 refine (T2.out _).mono ?_
 rintro e w2 ⟨A4, k4, c4, rfl, hk4, hW4, hF4, hb4⟩
 have T3 := Lib.hid (TL.out w2 A3 A4 k3 c3 k4 c4 (hW3.below hb4) hW4 hk3 hk4)
 have hr2 := (hr1.call hb3).call hb4
 generalize decide (na < 0) = s1 at *
 generalize decide (da < 0) = s2 at *
 clear hW3 hW4 hF3 hF4 hb3 hb4 T1 T2 TL hr1 hk3 hk4
 go_wp2_with fail
 refine T3.out.mono ?_
 rintro e w9 ⟨A9, k9, c9, A10, k10, c10, rfl, hk9, hk10, hW9, hW10, hF9, hF10, hb9⟩
 have hl9 := RS4.lt hr2
 have hr9 := hr2.call hb9
 obtain ⟨_, _, _, _, f0, f1, f2, f3, f4, f5, f6, f7⟩ := hr9.four
 have hfin := retQ_close hBW (by omega) (by have := HSZ.out; have h9 := hl9; omega) hr9 hk9 hk10 hW9 hW10 hF9 hF10
 obtain ⟨d0, d1, d2, d3, -, -, -, -⟩ := (hr9.done (.bool (decide ((y).num < 0))) (.slice A9 k9 c9) (.bool false) (.slice A10 k10 c10)).four
 have HF := Lib.hid hfin
 clear hfin hl9 hr9 T3
 go_wp2
 refine bodyPost_ret (v := .agg #[.bool (decide ((y).num < 0)), .slice A9 k9 c9, .bool false, .slice A10 k10 c10]) ?_ rfl HF.out
 simp [results, Tryz.results22, go_sem, d0, d1, d2, d3]

end Go.Proofs.YtodkhjihkkmplaaGreat
