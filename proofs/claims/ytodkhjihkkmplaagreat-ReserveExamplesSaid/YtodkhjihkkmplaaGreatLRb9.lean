/-
The reference of layer 1 at integers of any size: Mul, Add. Rationals whose size is counted in words: sums and products add their sizes. The reference of layer 2 at rationals of any size: Mul. No statement of the seat is proved here; no conditions beyond those of each theorem.
-/
import Derived.Test.YtodkhjihkkmplaaGreatLPX
import Derived.Test.YtodkhjihkkmplaaGreatLPQ
import Derived.Test.YtodkhjihkkmplaaGreatLPZ
namespace Go.Proofs.YtodkhjihkkmplaaGreat
set_option linter.unusedVariables false
set_option linter.unusedSimpArgs false
open Go.RowKit
open Wd

theorem RS.lt {g : Nat} {t : TypeId} {W w : World} (h : RS g t W w) : g < w.heap.size := by
 obtain ⟨_, _, _, hx⟩ := h
 exact hx.lt
set_option maxRecDepth 100000 in
set_option maxHeartbeats 2000000 in
theorem rmul_z (an bn : Bool) (A B : Option Addr) (n c m d : Nat) (za zb : Int) (w : World) (h : ZK w an A n za) (h' : ZK w bn B m zb) :
  Calls Tryz.prog 78 #[.agg #[.bool an, .slice A n c], .agg #[.bool bn, .slice B m d]] w (RetZ w (za * zb)) := by
 have hla := h.len
 have hlb := h'.len
 have TM := Lib.hid (fun (W : World) (A1 : Option Addr) (n1 c1 : Nat) (A2 : Option Addr) (n2 c2 : Nat) (h1 : HA W A1 n1 c1 za.natAbs) (h2 : HA W A2 n2 c2 zb.natAbs) => mul_ra A1 A2 n1 c1 n2 c2 za.natAbs zb.natAbs W h1.ra h2.ra (by rw [h1.1]; omega) (by rw [h2.1]; omega))
 have hlm : (hd (za.natAbs * zb.natAbs)).length ≤ 12000000000 := by
  have h1 := (hd_len_le (n := za.natAbs)).1 (Nat.le_refl _)
  have h2 := (hd_len_le (n := zb.natAbs)).1 (Nat.le_refl _)
  have h3 := Nat.mul_lt_mul'' h1 h2
  rw [← Nat.pow_add] at h3
  have := hd_len_le.2 h3
  omega
 have TO := Lib.hid (fun (W : World) (A1 : Option Addr) (n1 c1 : Nat) (h1 : HA W A1 n1 c1 (za.natAbs * zb.natAbs)) => of_any (an != bn) A1 n1 c1 (za.natAbs * zb.natAbs) W h1.ra (by rw [h1.1]; omega))
 rw [show sg (an != bn) (za.natAbs * zb.natAbs) = za * zb by rw [sg_mul, h.sg, h'.sg]] at TO
 generalize za * zb = y at *
 go_enter Tryz.func78, Tryz.ntmps78
 go_wp2_with fail
 obtain ⟨hB0, hB1, hB2, hBW, hsz⟩ := pre3 w 29 #[.bool an, .slice A n c] 29 #[.bool bn, .slice B m d] 29 #[.bool false, .slice none 0 0]
 generalize ((w.alloc (.cells #[.bool an, .slice A n c] 29)).alloc (.cells #[.bool bn, .slice B m d] 29)).alloc (.cells #[.bool false, .slice none 0 0] 29) = W at *
 have HSZ := Lib.hid hsz
 clear hsz
 have TA := Lib.hid (fun W' (hW : Below (w.heap.size + 1 + 1) W W') => ZK.halves (c := c) (h.below (hBW.trans (hW.mono (by omega)))))
 have TB := Lib.hid (fun W' (hW : Below (w.heap.size + 1 + 1) W W') => ZK.halves (c := d) (h'.below (hBW.trans (hW.mono (by omega)))))
 have s5 := RS.start hB2
 generalize za.natAbs = a at *
 generalize zb.natAbs = b at *
 clear h h' hla hlb hlm
 have hS : ∀ w', RS (w.heap.size + 1 + 1) 29 W w' → (w'.cell? ⟨w.heap.size, 0, none⟩ = some (.bool an) ∧ w'.cell? ⟨w.heap.size, 1, none⟩ = some (.slice A n c) ∧ w'.cell? ⟨w.heap.size + 1, 0, none⟩ = some (.bool bn) ∧ w'.cell? ⟨w.heap.size + 1, 1, none⟩ = some (.slice B m d)) ∧ RS (w.heap.size + 1 + 1) 29 W w' := fun w' hk => ⟨⟨(hk.blk hB0 (by omega)).cell 0, (hk.blk hB0 (by omega)).cell 1, (hk.blk hB1 (by omega)).cell 0, (hk.blk hB1 (by omega)).cell 1⟩, hk⟩
 have HS := Lib.hid hS
 clear hS
 go_region_held3 (fun w' => (w'.cell? ⟨w.heap.size, 0, none⟩ = some (.bool an) ∧ w'.cell? ⟨w.heap.size, 1, none⟩ = some (.slice A n c) ∧ w'.cell? ⟨w.heap.size + 1, 0, none⟩ = some (.bool bn) ∧ w'.cell? ⟨w.heap.size + 1, 1, none⟩ = some (.slice B m d)) ∧ RS (w.heap.size + 1 + 1) 29 W w')
  (first | (with_reducible refine HS.out _ ?_; with_reducible assumption) | (with_reducible refine HS.out _ (RS.drew ?_); with_reducible assumption) | (with_reducible refine' HS.out _ (RS.drew (And.right ?_)); rotate_left; with_reducible assumption) | (with_reducible refine' HS.out _ (RS.set (And.right ?_) _ _); rotate_left; with_reducible assumption))
  (first
   | (go_at_call_of 97 (Value.slice A n c); have hk := And.right ‹_ ∧ RS (w.heap.size + 1 + 1) 29 W _›; refine (TA.out _ hk.1).mono ?_; rintro e v4 ⟨A4, n4, c4, rfl, hI4, hb4⟩; have hp := hk.call hb4; (try have hI5 := hI5.below hb4); clear hk hb4)
   | (go_at_call_of 97 (Value.slice B m d); have hk := And.right ‹_ ∧ RS (w.heap.size + 1 + 1) 29 W _›; refine (TB.out _ hk.1).mono ?_; rintro e v5 ⟨A5, n5, c5, rfl, hI5, hb5⟩; have hp := hk.call hb5; (try have hI4 := hI4.below hb5); clear hk hb5)
   | (go_at_call 126; have hk := And.right ‹_ ∧ RS (w.heap.size + 1 + 1) 29 W _›; refine (TM.out _ _ _ _ _ _ _ hI4 hI5).mono ?_; rintro e v6 ⟨A6, n6, c6, rfl, hI6, hb6⟩; have hp := hk.call hb6; clear hk hb6)
   | (go_at_call 125; have hk := And.right ‹_ ∧ RS (w.heap.size + 1 + 1) 29 W _›; have hl9 := RS.lt hk; refine (TO.out _ _ _ _ hI6).mono ?_; rintro e v9 ⟨A9, k9, c9, rfl, hk9, hW9, hF9, hb9⟩; have hr9 := hk.call hb9; obtain ⟨_, _, p0, p1, f0, f1⟩ := hr9.two; clear hk))
 all_goals
  have hfin := retZ_close hBW (by omega) (by have := HSZ.out; have h9 := hl9; omega) hr9 hk9 hW9 hF9
  obtain ⟨d0, d1, -, -⟩ := (hr9.done (.bool (decide (y < 0))) (.slice A9 k9 c9)).two
  have HF := Lib.hid hfin
  clear hfin hl9 hr9 TA TB TM TO
  go_wp2
  refine bodyPost_ret (v := .agg #[.bool (decide (y < 0)), .slice A9 k9 c9]) ?_ rfl HF.out
  simp [results, Tryz.results78, go_sem, d0, d1]

theorem pow_sum {a b K : Nat} (h1 : a < 65536 ^ K) (h2 : b < 65536 ^ K) : (hd (a + b)).length ≤ K + 1 := by
 rw [hd_len_le, Nat.pow_succ]
 omega
theorem sg_same (s : Bool) (a b : Nat) : sg s (a + b) = sg s a + sg s b := by unfold sg; cases s <;> simp; omega
theorem sg_diff {s t : Bool} {a b : Nat} (hst : s ≠ t) (h : b ≤ a) : sg s (a - b) = sg s a + sg t b := by unfold sg; cases s <;> cases t <;> simp at * <;> omega
theorem sg_diff2 {s t : Bool} {a b : Nat} (hst : s ≠ t) (h : a ≤ b) : sg t (b - a) = sg s a + sg t b := by unfold sg; cases s <;> cases t <;> simp at * <;> omega
set_option maxRecDepth 100000 in
set_option maxHeartbeats 4000000 in
theorem radd_z (an bn : Bool) (A B : Option Addr) (n c m d : Nat) (za zb : Int) (w : World) (h : ZK w an A n za) (h' : ZK w bn B m zb) :
  Calls Tryz.prog 80 #[.agg #[.bool an, .slice A n c], .agg #[.bool bn, .slice B m d]] w (RetZ w (za + zb)) := by
 have HL := Lib.hid (And.intro h.len h'.len)
 obtain ⟨y, hy⟩ : ∃ y, y = za + zb := ⟨_, rfl⟩
 have hy2 : y = sg an za.natAbs + sg bn zb.natAbs := by rw [hy, h.sg, h'.sg]
 have HY := Lib.hid hy2
 rw [← hy]
 go_enter Tryz.func80, Tryz.ntmps80
 go_wp2_with fail
 obtain ⟨hB0, hB1, hB2, hBW, hsz⟩ := pre3 w 29 #[.bool an, .slice A n c] 29 #[.bool bn, .slice B m d] 29 #[.bool false, .slice none 0 0]
 generalize ((w.alloc (.cells #[.bool an, .slice A n c] 29)).alloc (.cells #[.bool bn, .slice B m d] 29)).alloc (.cells #[.bool false, .slice none 0 0] 29) = W at *
 have HSZ := Lib.hid hsz
 clear hsz
 have TA := Lib.hid (h.ta (c := c) hBW)
 have TB := Lib.hid (h'.ta (c := d) hBW)
 generalize za.natAbs = a at *
 generalize zb.natAbs = b at *
 clear h h' hy hy2
 go_upto_region 1 with fail
 have hS : ∀ w', Kp W w' → (w'.cell? ⟨w.heap.size, 1, none⟩ = some (.slice A n c) ∧ w'.cell? ⟨w.heap.size + 1, 1, none⟩ = some (.slice B m d)) ∧ Kp W w' := fun w' hk => ⟨⟨(hk.blk hB0).cell 1, (hk.blk hB1).cell 1⟩, hk⟩
 have HS := Lib.hid hS
 have s5 := Kp.refl W
 clear hS
 go_cut [5, 6] (fun s t wx => ∃ A1 n1 c1 A2 n2 c2, s = .slice A1 n1 c1 ∧ t = .slice A2 n2 c2 ∧ Hid (Kp W wx ∧ HA wx A1 n1 c1 a ∧ HA wx A2 n2 c2 b))
 case first =>
  go_region_held3 (fun w' => (w'.cell? ⟨w.heap.size, 1, none⟩ = some (.slice A n c) ∧ w'.cell? ⟨w.heap.size + 1, 1, none⟩ = some (.slice B m d)) ∧ Kp W w')
   (first | (with_reducible refine HS.out _ ?_; with_reducible assumption) | (with_reducible refine HS.out _ (Kp.drew ?_); with_reducible assumption) | (with_reducible refine' HS.out _ (Kp.drew (And.right ?_)); rotate_left; with_reducible assumption))
   (first
    | (go_at_call_of 97 (Value.slice A n c); have hk := And.right ‹_ ∧ Kp W _›; refine (TA.out _ hk).mono ?_; rintro e v4 ⟨A4, n4, c4, rfl, hI4, hb4⟩; have hp4 := Kp.trans hk hb4; (try have hI5 := hI5.below hb4); clear hk)
    | (go_at_call_of 97 (Value.slice B m d); have hk := And.right ‹_ ∧ Kp W _›; refine (TB.out _ hk).mono ?_; rintro e v5 ⟨A5, n5, c5, rfl, hI5, hb5⟩; have hp5 := Kp.trans hk hb5; (try have hI4 := hI4.below hb5); clear hk))
  all_goals
   (try go_wp2_with fail)
   go_meet
   first
    | exact ⟨A4, n4, c4, A5, n5, c5, rfl, rfl, Lib.hid ⟨hp5, hI4, hI5⟩⟩
    | exact ⟨A4, n4, c4, A5, n5, c5, rfl, rfl, Lib.hid ⟨hp4, hI4, hI5⟩⟩
 case rest =>
  obtain ⟨A1, n1, c1, A2, n2, c2, rfl, rfl, HV⟩ := hcut
  generalize wc = V at *
  have s5 := (RS.start hB2).call HV.out.1
  have HX1 := Lib.hid HV.out.2.1
  have HX2 := Lib.hid HV.out.2.2
  have hl1 : n1 ≤ 6000000000 := by rw [HX1.out.1]; exact HL.out.1
  have hl2 : n2 ≤ 6000000000 := by rw [HX2.out.1]; exact HL.out.2
  have hC0 := Kp.blk HV.out.1 hB0
  have hC1 := Kp.blk HV.out.1 hB1
  obtain ⟨p0, p1, -, -⟩ := hC0.two
  obtain ⟨p2, p3, -, -⟩ := hC1.two
  clear TA TB HS HV hC0 hC1 hB2
  by_cases hs : an = bn
  ·subst hs
   have TX := Lib.hid (fun (W : World) (h1 : HA W A1 n1 c1 a) (h2 : HA W A2 n2 c2 b) => add_ra A1 A2 n1 c1 n2 c2 a b W h1.ra h2.ra (by omega) (by omega))
   have hlm : (hd (a + b)).length ≤ 1000000000000 := by
    have h1 := (hd_len_le (n := a)).1 (Nat.le_refl _)
    have h2 := (hd_len_le (n := b)).1 (Nat.le_refl _)
    have h3 := Nat.lt_of_lt_of_le h1 (Nat.pow_le_pow_right (by decide : 0 < 65536) HL.out.1)
    have h4 := Nat.lt_of_lt_of_le h2 (Nat.pow_le_pow_right (by decide : 0 < 65536) HL.out.2)
    exact Nat.le_trans (pow_sum h3 h4) (by decide)
   have TO := Lib.hid (fun (W : World) (A3 : Option Addr) (n3 c3 : Nat) (h3 : HA W A3 n3 c3 (a + b)) => of_any an A3 n3 c3 (a + b) W h3.ra (by rw [h3.1]; exact hlm))
   rw [sg_same, ← HY.out] at TO
   clear hlm
   go_wp2_with fail
   have hS : ∀ w', RS (w.heap.size + 1 + 1) 29 W w' → (w'.cell? ⟨w.heap.size, 0, none⟩ = some (.bool an)) ∧ RS (w.heap.size + 1 + 1) 29 W w' := fun w' hk => ⟨(hk.blk hB0 (by omega)).cell 0, hk⟩
   have HS2 := Lib.hid hS
   clear hS
   go_region_held3 (fun w' => (w'.cell? ⟨w.heap.size, 0, none⟩ = some (.bool an)) ∧ RS (w.heap.size + 1 + 1) 29 W w')
    (first | (with_reducible refine HS2.out _ ?_; with_reducible assumption) | (with_reducible refine HS2.out _ (RS.drew ?_); with_reducible assumption) | (with_reducible refine' HS2.out _ (RS.drew (And.right ?_)); rotate_left; with_reducible assumption) | (with_reducible refine' HS2.out _ (RS.set (And.right ?_) _ _); rotate_left; with_reducible assumption))
    (first
     | (go_at_call 128; have hk := And.right ‹_ ∧ RS (w.heap.size + 1 + 1) 29 W _›; refine (TX.out _ (by exact HX1.out) (by exact HX2.out)).mono ?_; rintro e v6 ⟨A6, n6, c6, rfl, hI6, hb6⟩; have hp := hk.call hb6; clear hk hb6)
     | (go_at_call 125; have hk := And.right ‹_ ∧ RS (w.heap.size + 1 + 1) 29 W _›; have hl9 := RS.lt hk; refine (TO.out _ _ _ _ hI6).mono ?_; rintro e v9 ⟨A9, k9, c9, rfl, hk9, hW9, hF9, hb9⟩; have hr9 := hk.call hb9; obtain ⟨_, _, p0, p1, f0, f1⟩ := hr9.two; clear hk))
   all_goals
    have hfin := retZ_close hBW (by omega) (by have := HSZ.out; have h9 := hl9; omega) hr9 hk9 hW9 hF9
    obtain ⟨d0, d1, -, -⟩ := (hr9.done (.bool (decide (y < 0))) (.slice A9 k9 c9)).two
    have HF := Lib.hid hfin
    clear hfin hl9 hr9 TO TX
    go_wp2
    refine bodyPost_ret (v := .agg #[.bool (decide (y < 0)), .slice A9 k9 c9]) ?_ rfl HF.out
    simp [results, Tryz.results80, go_sem, d0, d1]
  ·have TC := Lib.hid (fun (W : World) (h1 : HA W A1 n1 c1 a) (h2 : HA W A2 n2 c2 b) => cmp_ra A1 A2 n1 c1 n2 c2 a b W h1.ra h2.ra (by omega) (by omega))
   have d1 : (an == bn) = false := by simpa using hs
   have d1' : decide (an = bn) = false := by simpa using hs
   by_cases hab : b ≤ a
   ·have d2 : decide (0 ≤ cmpN a b) = true := decide_eq_true (by unfold cmpN; split <;> (try split) <;> omega)
    have TX := Lib.hid (fun (W : World) (h1 : HA W A1 n1 c1 a) (h2 : HA W A2 n2 c2 b) => (sub_ra A1 A2 n1 c1 n2 c2 a b W h1.ra h2.ra (by omega) hab).mono fun _ _ h => RetF.h h)
    have TO := Lib.hid (fun (W : World) (A3 : Option Addr) (n3 c3 : Nat) (h3 : HA W A3 n3 c3 (a - b)) => of_any an A3 n3 c3 (a - b) W h3.ra (by rw [h3.1]; have := hd_len_mono (Nat.sub_le a b); have := HL.out.1; omega))
    rw [sg_diff hs hab, ← HY.out] at TO
    generalize cmpN a b = cv at *
    clear hs hab
    go_wp2_with fail
    refine (TC.out _ HX1.out HX2.out).mono ?_
    rintro e v8 ⟨rfl, hv8⟩
    rw [hv8]
    clear hv8 TC
    go_wp2_with fail
    have hS : ∀ w', RS (w.heap.size + 1 + 1) 29 W w' → (w'.cell? ⟨w.heap.size, 0, none⟩ = some (.bool an)) ∧ RS (w.heap.size + 1 + 1) 29 W w' := fun w' hk => ⟨(hk.blk hB0 (by omega)).cell 0, hk⟩
    have HS2 := Lib.hid hS
    clear hS
    go_region_held3 (fun w' => (w'.cell? ⟨w.heap.size, 0, none⟩ = some (.bool an)) ∧ RS (w.heap.size + 1 + 1) 29 W w')
     (first | (with_reducible refine HS2.out _ ?_; with_reducible assumption) | (with_reducible refine HS2.out _ (RS.drew ?_); with_reducible assumption) | (with_reducible refine' HS2.out _ (RS.drew (And.right ?_)); rotate_left; with_reducible assumption) | (with_reducible refine' HS2.out _ (RS.set (And.right ?_) _ _); rotate_left; with_reducible assumption))
     (first
      | (go_at_call 130; have hk := And.right ‹_ ∧ RS (w.heap.size + 1 + 1) 29 W _›; refine (TX.out _ (by exact HX1.out) (by exact HX2.out)).mono ?_; rintro e v6 ⟨A6, n6, c6, rfl, hI6, hb6⟩; have hp := hk.call hb6; clear hk hb6)
      | (go_at_call 125; have hk := And.right ‹_ ∧ RS (w.heap.size + 1 + 1) 29 W _›; have hl9 := RS.lt hk; refine (TO.out _ _ _ _ hI6).mono ?_; rintro e v9 ⟨A9, k9, c9, rfl, hk9, hW9, hF9, hb9⟩; have hr9 := hk.call hb9; obtain ⟨_, _, p0, p1, f0, f1⟩ := hr9.two; clear hk))
    all_goals
     have hfin := retZ_close hBW (by omega) (by have := HSZ.out; have h9 := hl9; omega) hr9 hk9 hW9 hF9
     obtain ⟨d0, d1, -, -⟩ := (hr9.done (.bool (decide (y < 0))) (.slice A9 k9 c9)).two
     have HF := Lib.hid hfin
     clear hfin hl9 hr9 TO TX
     go_wp2
     refine bodyPost_ret (v := .agg #[.bool (decide (y < 0)), .slice A9 k9 c9]) ?_ rfl HF.out
     simp [results, Tryz.results80, go_sem, d0, d1]
   ·have d2 : decide (0 ≤ cmpN a b) = false := decide_eq_false (by rw [cmp_lt (by omega)]; decide)
    have TX := Lib.hid (fun (W : World) (h1 : HA W A1 n1 c1 a) (h2 : HA W A2 n2 c2 b) => (sub_ra A2 A1 n2 c2 n1 c1 b a W h2.ra h1.ra (by omega) (by omega)).mono fun _ _ h => RetF.h h)
    have TO := Lib.hid (fun (W : World) (A3 : Option Addr) (n3 c3 : Nat) (h3 : HA W A3 n3 c3 (b - a)) => of_any bn A3 n3 c3 (b - a) W h3.ra (by rw [h3.1]; have := hd_len_mono (Nat.sub_le b a); have := HL.out.2; omega))
    rw [sg_diff2 hs (by omega), ← HY.out] at TO
    generalize cmpN a b = cv at *
    clear hs hab
    go_wp2_with fail
    refine (TC.out _ HX1.out HX2.out).mono ?_
    rintro e v8 ⟨rfl, hv8⟩
    rw [hv8]
    clear hv8 TC
    go_wp2_with fail
    have hS : ∀ w', RS (w.heap.size + 1 + 1) 29 W w' → (w'.cell? ⟨w.heap.size + 1, 0, none⟩ = some (.bool bn)) ∧ RS (w.heap.size + 1 + 1) 29 W w' := fun w' hk => ⟨(hk.blk hB1 (by omega)).cell 0, hk⟩
    have HS2 := Lib.hid hS
    clear hS
    go_region_held3 (fun w' => (w'.cell? ⟨w.heap.size + 1, 0, none⟩ = some (.bool bn)) ∧ RS (w.heap.size + 1 + 1) 29 W w')
     (first | (with_reducible refine HS2.out _ ?_; with_reducible assumption) | (with_reducible refine HS2.out _ (RS.drew ?_); with_reducible assumption) | (with_reducible refine' HS2.out _ (RS.drew (And.right ?_)); rotate_left; with_reducible assumption) | (with_reducible refine' HS2.out _ (RS.set (And.right ?_) _ _); rotate_left; with_reducible assumption))
     (first
      | (go_at_call 130; have hk := And.right ‹_ ∧ RS (w.heap.size + 1 + 1) 29 W _›; refine (TX.out _ (by exact HX1.out) (by exact HX2.out)).mono ?_; rintro e v6 ⟨A6, n6, c6, rfl, hI6, hb6⟩; have hp := hk.call hb6; clear hk hb6)
      | (go_at_call 125; have hk := And.right ‹_ ∧ RS (w.heap.size + 1 + 1) 29 W _›; have hl9 := RS.lt hk; refine (TO.out _ _ _ _ hI6).mono ?_; rintro e v9 ⟨A9, k9, c9, rfl, hk9, hW9, hF9, hb9⟩; have hr9 := hk.call hb9; obtain ⟨_, _, p0, p1, f0, f1⟩ := hr9.two; clear hk))
    all_goals
     have hfin := retZ_close hBW (by omega) (by have := HSZ.out; have h9 := hl9; omega) hr9 hk9 hW9 hF9
     obtain ⟨d0, d1, -, -⟩ := (hr9.done (.bool (decide (y < 0))) (.slice A9 k9 c9)).two
     have HF := Lib.hid hfin
     clear hfin hl9 hr9 TO TX
     go_wp2
     refine bodyPost_ret (v := .agg #[.bool (decide (y < 0)), .slice A9 k9 c9]) ?_ rfl HF.out
     simp [results, Tryz.results80, go_sem, d0, d1]

end Go.Proofs.YtodkhjihkkmplaaGreat

namespace Go.Proofs.YtodkhjihkkmplaaGreat
set_option linter.unusedVariables false
set_option linter.unusedSimpArgs false
open Go.RowKit
open Wd

/-- The bound of s words. -/
def WB (s : Nat) : Nat := 4294967296 ^ s


theorem wb_mono {a b : Nat} (h : a ≤ b) : WB a ≤ WB b := Nat.pow_le_pow_right (by decide) h
theorem wb_add (s t : Nat) : WB s * WB t = WB (s + t) := (Nat.pow_add _ _ _).symm
theorem wb_mul (s t : Nat) : 2 * (WB s * WB t) ≤ WB (s + t + 1) := by
 rw [wb_add]
 unfold WB
 rw [Nat.pow_succ, Nat.mul_comm]
 exact Nat.mul_le_mul_left _ (by decide)
theorem wb_ok {s : Nat} (h : s ≤ 10000000000) : WOK (WB s) := wok_words s h
theorem wb_half {v s : Nat} (h : v < WB s) (hs : s ≤ 3000000000) : (hd v).length ≤ 6000000000 := by
 have h1 := half_len h
 omega
theorem wb_three : 18446744073709551616 < WB 3 := by decide

/-- A rational of s words. -/
def Ls (s : Nat) (q : Rat) : Prop := q.num.natAbs < WB s ∧ q.den < WB s


theorem Ls.mono {a b : Nat} {q : Rat} (h : Ls a q) (hab : a ≤ b) : Ls b q := ⟨Nat.lt_of_lt_of_le h.1 (wb_mono hab), Nat.lt_of_lt_of_le h.2 (wb_mono hab)⟩
theorem ls_int {s : Nat} (hs : 3 ≤ s) {z : Int} (h : z.natAbs ≤ 18446744073709551616) : Ls s (z : Rat) := by
 refine Ls.mono (a := 3) ⟨?_, ?_⟩ hs
 ·rw [Rat.num_intCast]; exact Nat.lt_of_le_of_lt h wb_three
 ·rw [Rat.den_intCast]; exact Nat.lt_trans (by decide) wb_three
section
variable {s t : Nat} {a b : Rat}
theorem Ls.dd (ha : Ls s a) (hb : Ls t b) : ((a.den : Int) * (b.den : Int)).natAbs ≠ 0 ∧ ((a.den : Int) * (b.den : Int)).natAbs < WB (s + t + 1) := by
 rw [Int.natAbs_mul, Int.natAbs_natCast, Int.natAbs_natCast]
 refine ⟨Nat.mul_ne_zero a.den_nz b.den_nz, ?_⟩
 have := wb_mul s t
 have := Nat.mul_lt_mul'' ha.2 hb.2
 omega
theorem Ls.sub (ha : Ls s a) (hb : Ls t b) : Ls (s + t + 1) (a - b) := by
 obtain ⟨h0, h1⟩ := ha.dd hb
 rw [Lv.self a, Lv.self b, rat_sub _ _ _ _ (by have := a.den_pos; omega) (by have := b.den_pos; omega)]
 refine lv_mk h0 ?_ h1
 have e1 := bound_mul2 (a := a.num) (b := (b.den : Int)) ha.1 (by rw [Int.natAbs_natCast]; exact hb.2) (wb_mul s t)
 have e2 := bound_mul2 (a := b.num) (b := (a.den : Int)) hb.1 (by rw [Int.natAbs_natCast]; exact ha.2) (wb_mul t s)
 rw [Nat.add_comm t s] at e2
 omega


end
/-- An operand of s words. -/
def QS (s : Nat) (w : World) (neg : Bool) (A : Option Addr) (n c : Nat) (neg' : Bool) (A' : Option Addr) (n' c' : Nat) (q : Rat) : Prop := QAt (WB s) (WB s) w neg A n c neg' A' n' c' q
section
variable {k j s t : Nat} {w w' : World} {an an' bn bn' : Bool} {aA aA' bA bA' : Option Addr} {ak ac ak' ac' bk bc bk' bc' : Nat} {q qa qb : Rat}
theorem QK.qs (h : QK k w an aA ak ac an' aA' ak' ac' q) : QS (7 * 3 ^ k) w an aA ak ac an' aA' ak' ac' q := h
theorem QS.below (h : QS s w an aA ak ac an' aA' ak' ac' q) (hb : Below w.heap.size w w') : QS s w' an aA ak ac an' aA' ak' ac' q := QAt.below h hb
theorem QS.mono (h : QS s w an aA ak ac an' aA' ak' ac' q) (hst : s ≤ t) : QS t w an aA ak ac an' aA' ak' ac' q := by
 obtain ⟨na, da, h1, h2, h3, h4⟩ := h
 exact ⟨na, da, h1, Nat.lt_of_lt_of_le h2 (wb_mono hst), Nat.lt_of_lt_of_le h3 (wb_mono hst), h4⟩
theorem QS.ls (h : QS s w an aA ak ac an' aA' ak' ac' q) : Ls s q := by
 obtain ⟨na, da, h1, h2, h3, rfl⟩ := h
 exact lv_mk (den_nz da) h2 h3
theorem RQ.qs {A A' : Option Addr} {k c k' c' : Nat} (h : RQ w q A k c A' k' c') (hq : Ls s q) (hs : s ≤ 10000000000) : QS s w (decide (q.num < 0)) A k c false A' k' c' q :=
 qat_len (wb_ok hs) (Nat.le_refl _) (Nat.le_refl _) h.1 h.2.1 h.2.2.1 h.2.2.2 hq.1 hq.2







/-- Its two integers are small enough for the reference. -/
theorem QS.qz (h : QS s w an aA ak ac an' aA' ak' ac' q) (hs : s ≤ 3000000000) :
  ∃ na da, QZ w an aA ak an' aA' ak' na da ∧ (qnum na da).natAbs < WB s ∧ (qden da).natAbs < WB s ∧ q = mkRat (qnum na da) (qden da).natAbs ∧ (qden da).natAbs ≠ 0 := by
 obtain ⟨na, da, h1, h2, h3, h4⟩ := h
 exact ⟨na, da, h1.qz (wb_half h2 hs) (wb_half h3 hs), h2, h3, h4, den_nz da⟩
end
theorem wb_mul_half {x y s : Nat} (hx : x < WB s) (hy : y < WB s) (hs : s ≤ 1000000000) : (hd (x * y)).length ≤ 6000000000 := wb_half (s := s + s + 1) (by have := wb_mul s s; have := Nat.mul_lt_mul'' hx hy; omega) (by omega)
theorem three16 {k : Nat} (hk : k ≤ 16) : 7 * 3 ^ k ≤ 900000000 := by
 have h1 : 3 ^ k ≤ 3 ^ 16 := Nat.pow_le_pow_right (by decide) hk
 have h2 : (3 : Nat) ^ 16 = 43046721 := by decide
 omega

end Go.Proofs.YtodkhjihkkmplaaGreat

namespace Go.Proofs.YtodkhjihkkmplaaGreat
set_option linter.unusedVariables false
set_option linter.unusedSimpArgs false
open Go.RowKit
open Wd

end Go.Proofs.YtodkhjihkkmplaaGreat