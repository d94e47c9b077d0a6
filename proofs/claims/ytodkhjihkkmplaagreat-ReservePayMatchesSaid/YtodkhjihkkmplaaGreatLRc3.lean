/-
The reference of layer 2 at rationals of any size: Sub, Cmp, Min. No statement of the seat is proved here; no conditions beyond those of each theorem.
-/
import Derived.Test.YtodkhjihkkmplaaGreatLRc2
namespace Go.Proofs.YtodkhjihkkmplaaGreat
set_option linter.unusedVariables false
set_option linter.unusedSimpArgs false
open Go.RowKit
open Wd
theorem Ls.neg {s : Nat} {q : Rat} (h : Ls s q) : Ls s (-q) := by
  unfold Ls at *
  rw [show (-q).num = -q.num from rfl, show (-q).den = q.den from rfl, Int.natAbs_neg]
  exact h
theorem QS.qk {k s : Nat} {w : World} {an an' : Bool} {A A' : Option Addr} {n c n' c' : Nat} {q : Rat} (h : QS s w an A n c an' A' n' c' q) (hs : s ≤ 7 * 3 ^ k) : QK k w an A n c an' A' n' c' q := QS.mono (t := 7 * 3 ^ k) h hs
theorem three18 : (3 : Nat) ^ 18 = 387420489 := by decide
theorem rnegq_s {s : Nat} (hs : s ≤ 2000000000) (an bn : Bool) (A B : Option Addr) (n c m d : Nat) (q : Rat) (w : World) (h : QS s w an A n c bn B m d q) :
    Calls Tryz.prog 65 #[.agg #[.bool an, .slice A n c, .bool bn, .slice B m d]] w (RetQ w (-q)) := rnegq_k (k := 18) (Nat.le_refl _) _ _ _ _ _ _ _ _ _ _ (h.qk (by rw [three18]; omega))
theorem rsignq_s {s : Nat} (hs : s ≤ 2000000000) (an bn : Bool) (A B : Option Addr) (n c m d : Nat) (q : Rat) (w : World) (h : QS s w an A n c bn B m d q) :
    Calls Tryz.prog 40 #[.agg #[.bool an, .slice A n c, .bool bn, .slice B m d]] w fun e w' => e = .returned (.int .i64 (sgnQ q)) ∧ Below w.heap.size w w' := rsignq_k (k := 18) (Nat.le_refl _) _ _ _ _ _ _ _ _ _ _ (h.qk (by rw [three18]; omega))
theorem rleastq_s {s : Nat} (hs : s ≤ 2000000000) (an bn : Bool) (A B : Option Addr) (n c m d : Nat) (q : Rat) (w : World) (h : QS s w an A n c bn B m d q) :
    Calls Tryz.prog 51 #[.agg #[.bool an, .slice A n c, .bool bn, .slice B m d]] w (RetQ w q) := rleastq_k (k := 18) (Nat.le_refl _) _ _ _ _ _ _ _ _ _ _ (h.qk (by rw [three18]; omega))

set_option maxRecDepth 100000 in
set_option maxHeartbeats 4000000 in
theorem rsubq_s {s : Nat} (hs : s ≤ 1000000000) (an an' bn bn' : Bool) (A A' B B' : Option Addr) (n c n' c' m d m' d' : Nat) (qa qb : Rat) (w : World) (ha : QS s w an A n c an' A' n' c' qa) (hb : QS s w bn B m d bn' B' m' d' qb) :
    Calls Tryz.prog 39 #[.agg #[.bool an, .slice A n c, .bool an', .slice A' n' c'], .agg #[.bool bn, .slice B m d, .bool bn', .slice B' m' d']] w (RetQ w (qa - qb)) := by
  have TN := Lib.hid (fun W' (hW : Below w.heap.size w W') => rnegq_s (by omega) bn bn' B B' m d m' d' qb W' (hb.below hW))
  have TA := Lib.hid (fun W' (hW : Below w.heap.size w W') (C D : Option Addr) (j e j' e' : Nat) (hN : RQ W' (-qb) C j e D j' e') => raddq_s hs an an' (decide ((-qb).num < 0)) false A A' C D n c n' c' j e j' e' qa (-qb) W' (ha.below hW) (hN.qs hb.ls.neg (by omega)))
  rw [show qa + -qb = qa - qb from (Rat.sub_eq_add_neg ..).symm] at TA
  generalize qa - qb = y at *
  generalize -qb = nb at *
  clear ha hb
  go_enter Tryz.func39, Tryz.ntmps39
  go_wp2_with fail
  have hB0 := ((Blk.new w 31 #[.bool an, .slice A n c, .bool an', .slice A' n' c']).alloc (.cells #[.bool bn, .slice B m d, .bool bn', .slice B' m' d'] 31)).alloc (.cells #[.bool false, .slice none 0 0, .bool false, .slice none 0 0] 31)
  have hB1 := (Blk.new1 w (.cells #[.bool an, .slice A n c, .bool an', .slice A' n' c'] 31) 31 #[.bool bn, .slice B m d, .bool bn', .slice B' m' d']).alloc (.cells #[.bool false, .slice none 0 0, .bool false, .slice none 0 0] 31)
  have hB2 := Blk.new2 w (.cells #[.bool an, .slice A n c, .bool an', .slice A' n' c'] 31) (.cells #[.bool bn, .slice B m d, .bool bn', .slice B' m' d'] 31) 31 #[.bool false, .slice none 0 0, .bool false, .slice none 0 0]
  have hBW : Below w.heap.size w (((w.alloc (.cells #[.bool an, .slice A n c, .bool an', .slice A' n' c'] 31)).alloc (.cells #[.bool bn, .slice B m d, .bool bn', .slice B' m' d'] 31)).alloc (.cells #[.bool false, .slice none 0 0, .bool false, .slice none 0 0] 31)) := (((Below.refl _ _).alloc (Nat.le_refl _) _).alloc (by simp only [World.size_alloc]; omega) _).alloc (by simp only [World.size_alloc]; omega) _
  have hsz : (((w.alloc (.cells #[.bool an, .slice A n c, .bool an', .slice A' n' c'] 31)).alloc (.cells #[.bool bn, .slice B m d, .bool bn', .slice B' m' d'] 31)).alloc (.cells #[.bool false, .slice none 0 0, .bool false, .slice none 0 0] 31)).heap.size = w.heap.size + 1 + 1 + 1 := by simp
  generalize ((w.alloc (.cells #[.bool an, .slice A n c, .bool an', .slice A' n' c'] 31)).alloc (.cells #[.bool bn, .slice B m d, .bool bn', .slice B' m' d'] 31)).alloc (.cells #[.bool false, .slice none 0 0, .bool false, .slice none 0 0] 31) = W at *
  have HSZ := Lib.hid hsz
  clear hsz
  have HBW := Lib.hid hBW
  have TN := Lib.hid (fun W' (hW : Below (w.heap.size + 1 + 1) W W') => TN.out W' (HBW.out.trans (hW.mono (by omega))))
  have TA := Lib.hid (fun W' (hW : Below (w.heap.size + 1 + 1) W W') => TA.out W' (HBW.out.trans (hW.mono (by omega))))
  have s5 := RS4.start hB2
  have hS : ∀ w', RS4 (w.heap.size + 1 + 1) 31 W w' → (w'.cell? ⟨w.heap.size, 0, none⟩ = some (.bool an) ∧ w'.cell? ⟨w.heap.size, 1, none⟩ = some (.slice A n c) ∧ w'.cell? ⟨w.heap.size, 2, none⟩ = some (.bool an') ∧ w'.cell? ⟨w.heap.size, 3, none⟩ = some (.slice A' n' c') ∧ w'.cell? ⟨w.heap.size + 1, 0, none⟩ = some (.bool bn) ∧ w'.cell? ⟨w.heap.size + 1, 1, none⟩ = some (.slice B m d) ∧ w'.cell? ⟨w.heap.size + 1, 2, none⟩ = some (.bool bn') ∧ w'.cell? ⟨w.heap.size + 1, 3, none⟩ = some (.slice B' m' d')) ∧ RS4 (w.heap.size + 1 + 1) 31 W w' := fun w' hk => ⟨⟨(hk.blk hB0 (by omega)).cell 0, (hk.blk hB0 (by omega)).cell 1, (hk.blk hB0 (by omega)).cell 2, (hk.blk hB0 (by omega)).cell 3, (hk.blk hB1 (by omega)).cell 0, (hk.blk hB1 (by omega)).cell 1, (hk.blk hB1 (by omega)).cell 2, (hk.blk hB1 (by omega)).cell 3⟩, hk⟩
  have HS := Lib.hid hS
  clear hS
  go_region_held3 (fun w' => (w'.cell? ⟨w.heap.size, 0, none⟩ = some (.bool an) ∧ w'.cell? ⟨w.heap.size, 1, none⟩ = some (.slice A n c) ∧ w'.cell? ⟨w.heap.size, 2, none⟩ = some (.bool an') ∧ w'.cell? ⟨w.heap.size, 3, none⟩ = some (.slice A' n' c') ∧ w'.cell? ⟨w.heap.size + 1, 0, none⟩ = some (.bool bn) ∧ w'.cell? ⟨w.heap.size + 1, 1, none⟩ = some (.slice B m d) ∧ w'.cell? ⟨w.heap.size + 1, 2, none⟩ = some (.bool bn') ∧ w'.cell? ⟨w.heap.size + 1, 3, none⟩ = some (.slice B' m' d')) ∧ RS4 (w.heap.size + 1 + 1) 31 W w')
    (first | (with_reducible refine HS.out _ ?_; with_reducible assumption) | (with_reducible refine HS.out _ (RS4.drew ?_); with_reducible assumption) | (with_reducible refine' HS.out _ (RS4.drew (And.right ?_)); rotate_left; with_reducible assumption) | (with_reducible refine' HS.out _ (RS4.set (And.right ?_) _ _ _ _); rotate_left; with_reducible assumption))
    (first
      | (go_at_call 65; have hk := And.right ‹_ ∧ RS4 (w.heap.size + 1 + 1) 31 W _›; refine (TN.out _ hk.1).mono ?_; rintro e v4 ⟨A4, k4, c4, A5, k5, c5, rfl, hk4, hk5, hW4, hW5, -, -, hb4⟩; have hZ4 : RQ v4 nb A4 k4 c4 A5 k5 c5 := ⟨hk4, hk5, hW4, hW5⟩; have hr := hk.call hb4; clear hk hb4 hW4 hW5 hk4 hk5)
      | (go_at_call 49; have hk := And.right ‹_ ∧ RS4 (w.heap.size + 1 + 1) 31 W _›; refine (TA.out _ hk.1 _ _ _ _ _ _ hZ4).mono ?_; rintro e v11 ⟨A11, k11, c11, A12, k12, c12, rfl, hk11, hk12, hW11, hW12, hF11, hF12, hb11⟩; have hl9 := RS4.lt hk; have hr9 := hk.call hb11; obtain ⟨_, _, _, _, f0, f1, f2, f3, f4, f5, f6, f7⟩ := hr9.four))
  all_goals
    have hfin := retQ_close hBW (by omega) (by have := HSZ.out; have h9 := hl9; omega) hr9 hk11 hk12 hW11 hW12 hF11 hF12
    obtain ⟨d0, d1, d2, d3, -, -, -, -⟩ := (hr9.done (.bool (decide ((y).num < 0))) (.slice A11 k11 c11) (.bool false) (.slice A12 k12 c12)).four
    have HF := Lib.hid hfin
    clear hfin hl9 hr9 TN TA hZ4
    go_wp2
    refine bodyPost_ret (v := .agg #[.bool (decide ((y).num < 0)), .slice A11 k11 c11, .bool false, .slice A12 k12 c12]) ?_ rfl HF.out
    simp [results, Tryz.results39, go_sem, d0, d1, d2, d3]

theorem sgn_sub (a b : Rat) : sgnQ (a - b) = cmpQ a b := by
  have e1 : (a - b).num < 0 ↔ a < b := by
    have h : a - b < (0 : Rat) ↔ (a - b).num < 0 := by rw [Rat.lt_iff]; simp
    rw [← h]
    constructor <;> intro h <;> grind
  have e2 : 0 < (a - b).num ↔ b < a := by
    have h : (0 : Rat) < a - b ↔ 0 < (a - b).num := by rw [Rat.lt_iff]; simp
    rw [← h]
    constructor <;> intro h <;> grind
  unfold sgnQ cmpI cmpQ
  simp only [e1, e2]

set_option maxHeartbeats 1000000 in
theorem rcmpq_s {s : Nat} (hs : s ≤ 900000000) (an an' bn bn' : Bool) (A A' B B' : Option Addr) (n c n' c' m d m' d' : Nat) (qa qb : Rat) (w : World) (ha : QS s w an A n c an' A' n' c' qa) (hb : QS s w bn B m d bn' B' m' d' qb) :
    Calls Tryz.prog 63 #[.agg #[.bool an, .slice A n c, .bool an', .slice A' n' c'], .agg #[.bool bn, .slice B m d, .bool bn', .slice B' m' d']] w fun e w' => e = .returned (.int .i64 (cmpQ qa qb)) ∧ Below w.heap.size w w' := by
  have TS := Lib.hid (fun W' (hW : Below w.heap.size w W') => rsubq_s (by omega) an an' bn bn' A A' B B' n c n' c' m d m' d' qa qb W' (ha.below hW) (hb.below hW))
  have hls := ha.ls.sub hb.ls
  have TG := Lib.hid (fun W' (C D : Option Addr) (j e j' e' : Nat) (hN : RQ W' (qa - qb) C j e D j' e') => rsignq_s (s := s + s + 1) (by omega) (decide ((qa - qb).num < 0)) false C D j e j' e' (qa - qb) W' (hN.qs hls (by omega)))
  rw [sgn_sub] at TG
  generalize qa - qb = y at *
  generalize cmpQ qa qb = cv at *
  clear ha hb hls
  go_enter Tryz.func63, Tryz.ntmps63
  go_wp2_with fail
  have hB0 := (Blk.new w 31 #[.bool an, .slice A n c, .bool an', .slice A' n' c']).alloc (.cells #[.bool bn, .slice B m d, .bool bn', .slice B' m' d'] 31)
  have hB1 := Blk.new1 w (.cells #[.bool an, .slice A n c, .bool an', .slice A' n' c'] 31) 31 #[.bool bn, .slice B m d, .bool bn', .slice B' m' d']
  have hBW : Below w.heap.size w ((w.alloc (.cells #[.bool an, .slice A n c, .bool an', .slice A' n' c'] 31)).alloc (.cells #[.bool bn, .slice B m d, .bool bn', .slice B' m' d'] 31)) := ((Below.refl _ _).alloc (Nat.le_refl _) _).alloc (by simp only [World.size_alloc]; omega) _
  have hsz : ((w.alloc (.cells #[.bool an, .slice A n c, .bool an', .slice A' n' c'] 31)).alloc (.cells #[.bool bn, .slice B m d, .bool bn', .slice B' m' d'] 31)).heap.size = w.heap.size + 1 + 1 := by simp
  generalize (w.alloc (.cells #[.bool an, .slice A n c, .bool an', .slice A' n' c'] 31)).alloc (.cells #[.bool bn, .slice B m d, .bool bn', .slice B' m' d'] 31) = W at *
  have HSZ := Lib.hid hsz
  clear hsz
  obtain ⟨p0, p1, p2, p3, -, -, -, -⟩ := hB0.four
  obtain ⟨q0, q1, q2, q3, -, -, -, -⟩ := hB1.four
  have HBW := Lib.hid hBW
  clear hB0 hB1 hBW
  go_wp2_with fail
  refine (TS.out _ HBW.out).mono ?_
  rintro e w1 ⟨A3, k3, c3, A4, k4, c4, rfl, hk3, hk4, hW3, hW4, -, -, hb3⟩
  have T := Lib.hid (TG.out w1 A3 A4 k3 c3 k4 c4 ⟨hk3, hk4, hW3, hW4⟩)
  have HB := Lib.hid (HBW.out.trans (hb3.mono HBW.out.size))
  clear hW3 hW4 hb3 hk3 hk4 TS TG p0 p1 p2 p3 q0 q1 q2 q3
  go_wp2_with fail
  refine T.out.mono ?_
  rintro e w2 ⟨rfl, hb2⟩
  have HF := Lib.hid (HB.out.trans (hb2.mono HB.out.size))
  clear hb2 T
  go_wp2
  go_ret
  exact ⟨rfl, HF.out⟩

theorem cmp_le (a b : Rat) : decide (cmpQ a b ≤ 0) = !decide (b < a) := by
  unfold cmpQ
  by_cases h : a < b
  · have : ¬ b < a := by grind
    simp [h, this]
  · by_cases h2 : b < a
    · simp [h, h2]
    · simp [h, h2]
set_option maxHeartbeats 2000000 in
theorem rminq_s {s : Nat} (hs : s ≤ 900000000) (an an' bn bn' : Bool) (A A' B B' : Option Addr) (n c n' c' m d m' d' : Nat) (qa qb : Rat) (w : World) (ha : QS s w an A n c an' A' n' c' qa) (hb : QS s w bn B m d bn' B' m' d' qb) :
    Calls Tryz.prog 37 #[.agg #[.bool an, .slice A n c, .bool an', .slice A' n' c'], .agg #[.bool bn, .slice B m d, .bool bn', .slice B' m' d']] w (RetQ w (if qb < qa then qb else qa)) := by
  have TC := Lib.hid (fun W' (hW : Below w.heap.size w W') => rcmpq_s hs an an' bn bn' A A' B B' n c n' c' m d m' d' qa qb W' (ha.below hW) (hb.below hW))
  have TA := Lib.hid (fun W' (hW : Below w.heap.size w W') => rleastq_s (by omega) an an' A A' n c n' c' qa W' (ha.below hW))
  have TB := Lib.hid (fun W' (hW : Below w.heap.size w W') => rleastq_s (by omega) bn bn' B B' m d m' d' qb W' (hb.below hW))
  obtain ⟨d1, e1⟩ : ∃ d, decide (cmpQ qa qb ≤ 0) = d := ⟨_, rfl⟩
  have e2 := e1
  rw [cmp_le] at e2
  have HE := Lib.hid e2
  obtain ⟨y, hy⟩ : ∃ y, y = if qb < qa then qb else qa := ⟨_, rfl⟩
  rw [← hy]
  have HY := Lib.hid hy
  generalize cmpQ qa qb = cv at *
  clear ha hb e2 hy
  go_enter Tryz.func37, Tryz.ntmps37
  go_wp2_with fail
  have hB0 := ((Blk.new w 31 #[.bool an, .slice A n c, .bool an', .slice A' n' c']).alloc (.cells #[.bool bn, .slice B m d, .bool bn', .slice B' m' d'] 31)).alloc (.cells #[.bool false, .slice none 0 0, .bool false, .slice none 0 0] 31)
  have hB1 := (Blk.new1 w (.cells #[.bool an, .slice A n c, .bool an', .slice A' n' c'] 31) 31 #[.bool bn, .slice B m d, .bool bn', .slice B' m' d']).alloc (.cells #[.bool false, .slice none 0 0, .bool false, .slice none 0 0] 31)
  have hB2 := Blk.new2 w (.cells #[.bool an, .slice A n c, .bool an', .slice A' n' c'] 31) (.cells #[.bool bn, .slice B m d, .bool bn', .slice B' m' d'] 31) 31 #[.bool false, .slice none 0 0, .bool false, .slice none 0 0]
  have hBW : Below w.heap.size w (((w.alloc (.cells #[.bool an, .slice A n c, .bool an', .slice A' n' c'] 31)).alloc (.cells #[.bool bn, .slice B m d, .bool bn', .slice B' m' d'] 31)).alloc (.cells #[.bool false, .slice none 0 0, .bool false, .slice none 0 0] 31)) := (((Below.refl _ _).alloc (Nat.le_refl _) _).alloc (by simp only [World.size_alloc]; omega) _).alloc (by simp only [World.size_alloc]; omega) _
  have hsz : (((w.alloc (.cells #[.bool an, .slice A n c, .bool an', .slice A' n' c'] 31)).alloc (.cells #[.bool bn, .slice B m d, .bool bn', .slice B' m' d'] 31)).alloc (.cells #[.bool false, .slice none 0 0, .bool false, .slice none 0 0] 31)).heap.size = w.heap.size + 1 + 1 + 1 := by simp
  generalize ((w.alloc (.cells #[.bool an, .slice A n c, .bool an', .slice A' n' c'] 31)).alloc (.cells #[.bool bn, .slice B m d, .bool bn', .slice B' m' d'] 31)).alloc (.cells #[.bool false, .slice none 0 0, .bool false, .slice none 0 0] 31) = W at *
  have HSZ := Lib.hid hsz
  clear hsz
  obtain ⟨p0, p1, p2, p3, -, -, -, -⟩ := hB0.four
  obtain ⟨q0, q1, q2, q3, -, -, -, -⟩ := hB1.four
  have s5 := RS4.start hB2
  go_wp2_with fail
  refine (TC.out _ hBW).mono ?_
  rintro e w1 ⟨rfl, hb1⟩
  have hr2 := s5.call hb1
  have HB := Lib.hid (hBW.trans (hb1.mono hBW.size))
  have hB0 := hB0.below hb1 hB0.lt
  have hB1 := hB1.below hb1 hB1.lt
  obtain ⟨p0, p1, p2, p3, -, -, -, -⟩ := hB0.four
  obtain ⟨q0, q1, q2, q3, -, -, -, -⟩ := hB1.four
  clear hb1 TC s5 hB0 hB1 hB2
  cases d1
  · have hlt : qb < qa := by have := HE.out; simpa using this
    obtain rfl : qb = y := by rw [HY.out, if_pos hlt]
    clear hlt HE HY TA
    go_wp2_with fail
    refine (TB.out _ HB.out).mono ?_
    rintro e w9 ⟨A9, k9, c9, A10, k10, c10, rfl, hk9, hk10, hW9, hW10, hF9, hF10, hb9⟩
    have hl9 := RS4.lt hr2
    have hr9 := hr2.call hb9
    obtain ⟨_, _, _, _, f0, f1, f2, f3, f4, f5, f6, f7⟩ := hr9.four
    have hfin := retQ_close hBW (by omega) (by have := HSZ.out; have h9 := hl9; omega) hr9 hk9 hk10 hW9 hW10 hF9 hF10
    obtain ⟨d0, d1, d2, d3, -, -, -, -⟩ := (hr9.done (.bool (decide ((qb).num < 0))) (.slice A9 k9 c9) (.bool false) (.slice A10 k10 c10)).four
    have HF := Lib.hid hfin
    clear hfin hl9 hr9 hr2 HB
    go_wp2
    refine bodyPost_ret (v := .agg #[.bool (decide ((qb).num < 0)), .slice A9 k9 c9, .bool false, .slice A10 k10 c10]) ?_ rfl HF.out
    simp [results, Tryz.results37, go_sem, d0, d1, d2, d3]
  · have hlt : ¬ qb < qa := by have := HE.out; simpa using this
    obtain rfl : qa = y := by rw [HY.out, if_neg hlt]
    clear hlt HE HY TB
    go_wp2_with fail
    refine (TA.out _ HB.out).mono ?_
    rintro e w9 ⟨A9, k9, c9, A10, k10, c10, rfl, hk9, hk10, hW9, hW10, hF9, hF10, hb9⟩
    have hl9 := RS4.lt hr2
    have hr9 := hr2.call hb9
    obtain ⟨_, _, _, _, f0, f1, f2, f3, f4, f5, f6, f7⟩ := hr9.four
    have hfin := retQ_close hBW (by omega) (by have := HSZ.out; have h9 := hl9; omega) hr9 hk9 hk10 hW9 hW10 hF9 hF10
    obtain ⟨d0, d1, d2, d3, -, -, -, -⟩ := (hr9.done (.bool (decide ((qa).num < 0))) (.slice A9 k9 c9) (.bool false) (.slice A10 k10 c10)).four
    have HF := Lib.hid hfin
    clear hfin hl9 hr9 hr2 HB
    go_wp2
    refine bodyPost_ret (v := .agg #[.bool (decide ((qa).num < 0)), .slice A9 k9 c9, .bool false, .slice A10 k10 c10]) ?_ rfl HF.out
    simp [results, Tryz.results37, go_sem, d0, d1, d2, d3]

end Go.Proofs.YtodkhjihkkmplaaGreat
