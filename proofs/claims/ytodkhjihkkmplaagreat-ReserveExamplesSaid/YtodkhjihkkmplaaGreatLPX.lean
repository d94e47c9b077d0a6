/-
The reference of layer 1 at integers of any size: Div without rest, Cmp of positive numbers. The reference of layer 1 at integers of any size: Cmp of positive numbers. No statement of the seat is proved here; no conditions beyond those of each theorem.
-/
import Derived.Test.YtodkhjihkkmplaaGreatLPW
namespace Go.Proofs.YtodkhjihkkmplaaGreat
set_option linter.unusedVariables false
set_option linter.unusedSimpArgs false
open Go.RowKit
open Wd

/-- Quotient and rest of a division handed back, with no error; of the rest nothing is said. -/
def RetD (w : World) (y : Int) (e : Ending) (w' : World) : Prop :=
 ∃ A1 k1 c1 A2 k2 c2, e = .returned (.tuple #[.agg #[.bool (decide (y < 0)), .slice A1 k1 c1], .agg #[.bool false, .slice A2 k2 c2], .int .i64 0]) ∧ k1 ≤ c1 ∧ Wat w' A1 k1 (digs y.natAbs) ∧ Fresh w.heap.size w' A1 k1 ∧ Below w.heap.size w w'
theorem retD_close {w w2 : World} {A A' : Option Addr} {k c k' c' : Nat} {z : Int} (hb : Below w.heap.size w w2) (hk : k ≤ c)
  (hW : Wat w2 A k (digs z.natAbs)) (hF : Fresh (w.heap.size + 1 + 1 + 1 + 1) w2 A k) {x y x' y' : Value} (hB2 : Blk w2 (w.heap.size + 1 + 1) 29 #[x, y]) (hB3 : Blk w2 (w.heap.size + 1 + 1 + 1) 29 #[x', y']) :
  RetD w z (.returned (.tuple #[.agg #[.bool (decide (z < 0)), .slice A k c], .agg #[.bool false, .slice A' k' c'], .int .i64 0])) ((((w2.setCell ⟨w.heap.size + 1 + 1, 0, none⟩ (.bool (decide (z < 0)))).setCell ⟨w.heap.size + 1 + 1, 1, none⟩ (.slice A k c)).setCell ⟨w.heap.size + 1 + 1 + 1, 0, none⟩ (.bool false)).setCell ⟨w.heap.size + 1 + 1 + 1, 1, none⟩ (.slice A' k' c')) ∧
  Blk ((((w2.setCell ⟨w.heap.size + 1 + 1, 0, none⟩ (.bool (decide (z < 0)))).setCell ⟨w.heap.size + 1 + 1, 1, none⟩ (.slice A k c)).setCell ⟨w.heap.size + 1 + 1 + 1, 0, none⟩ (.bool false)).setCell ⟨w.heap.size + 1 + 1 + 1, 1, none⟩ (.slice A' k' c')) (w.heap.size + 1 + 1) 29 #[.bool (decide (z < 0)), .slice A k c] ∧
  Blk ((((w2.setCell ⟨w.heap.size + 1 + 1, 0, none⟩ (.bool (decide (z < 0)))).setCell ⟨w.heap.size + 1 + 1, 1, none⟩ (.slice A k c)).setCell ⟨w.heap.size + 1 + 1 + 1, 0, none⟩ (.bool false)).setCell ⟨w.heap.size + 1 + 1 + 1, 1, none⟩ (.slice A' k' c')) (w.heap.size + 1 + 1 + 1) 29 #[.bool false, .slice A' k' c'] := by
 have hW1 := hW.setFar (base := w.heap.size + 1 + 1 + 1 + 1) hF (p := ⟨w.heap.size + 1 + 1, 0, none⟩) (by simp) (.bool (decide (z < 0)))
 have hF1 := hF.set ⟨w.heap.size + 1 + 1, 0, none⟩ (.bool (decide (z < 0)))
 have hW2 := hW1.setFar hF1 (p := ⟨w.heap.size + 1 + 1, 1, none⟩) (by simp) (.slice A k c)
 have hF2 := hF1.set ⟨w.heap.size + 1 + 1, 1, none⟩ (.slice A k c)
 have hW3 := hW2.setFar hF2 (p := ⟨w.heap.size + 1 + 1 + 1, 0, none⟩) (by simp) (.bool false)
 have hF3 := hF2.set ⟨w.heap.size + 1 + 1 + 1, 0, none⟩ (.bool false)
 have hW4 := hW3.setFar hF3 (p := ⟨w.heap.size + 1 + 1 + 1, 1, none⟩) (by simp) (.slice A' k' c')
 have hF4 := hF3.set ⟨w.heap.size + 1 + 1 + 1, 1, none⟩ (.slice A' k' c')
 refine ⟨⟨A, k, c, A', k', c', rfl, hk, hW4, hF4.mono (by omega), below_set2 (below_set2 hb (by omega) _ _) (by omega) _ _⟩, ?_, ?_⟩
 ·exact ((hB2.set2 _ _).far (by simp) _).far (by simp) _
 ·exact ((hB3.far (by simp) _).far (by simp) _).set2 _ _

set_option maxRecDepth 100000 in
set_option maxHeartbeats 2000000 in
theorem rdiv_z (an : Bool) (A B : Option Addr) (n c m d : Nat) (za y : Int) (b : Nat) (w : World) (h : ZK w an A n za) (h' : ZK w false B m (b : Int)) (hb0 : b ≠ 0) (hdv : b ∣ za.natAbs) (hy : sg an (za.natAbs / b) = y) :
  Calls Tryz.prog 122 #[.agg #[.bool an, .slice A n c], .agg #[.bool false, .slice B m d]] w (RetD w y) := by
 have hla := h.len
 have hlb := h'.len
 rw [Int.natAbs_natCast] at hlb
 have HAB := Lib.hid (And.intro hla (And.intro hlb (And.intro hb0 (And.intro (Nat.mod_eq_zero_of_dvd hdv) hy))))
 go_enter Tryz.func122, Tryz.ntmps122
 go_wp2_with fail
 have hB0 := (((Blk.new w 29 #[.bool an, .slice A n c]).alloc (.cells #[.bool false, .slice B m d] 29)).alloc (.cells #[.bool false, .slice none 0 0] 29)).alloc (.cells #[.bool false, .slice none 0 0] 29)
 have hB1 := ((Blk.new1 w (.cells #[.bool an, .slice A n c] 29) 29 #[.bool false, .slice B m d]).alloc (.cells #[.bool false, .slice none 0 0] 29)).alloc (.cells #[.bool false, .slice none 0 0] 29)
 have hB2 := (Blk.new2 w (.cells #[.bool an, .slice A n c] 29) (.cells #[.bool false, .slice B m d] 29) 29 #[.bool false, .slice none 0 0]).alloc (.cells #[.bool false, .slice none 0 0] 29)
 have hB3 := Blk.new3 w (.cells #[.bool an, .slice A n c] 29) (.cells #[.bool false, .slice B m d] 29) (.cells #[.bool false, .slice none 0 0] 29) 29 #[.bool false, .slice none 0 0]
 have hBW : Below w.heap.size w ((((w.alloc (.cells #[.bool an, .slice A n c] 29)).alloc (.cells #[.bool false, .slice B m d] 29)).alloc (.cells #[.bool false, .slice none 0 0] 29)).alloc (.cells #[.bool false, .slice none 0 0] 29)) := ((((Below.refl _ _).alloc (Nat.le_refl _) _).alloc (by simp only [World.size_alloc]; omega) _).alloc (by simp only [World.size_alloc]; omega) _).alloc (by simp only [World.size_alloc]; omega) _
 have hsz : ((((w.alloc (.cells #[.bool an, .slice A n c] 29)).alloc (.cells #[.bool false, .slice B m d] 29)).alloc (.cells #[.bool false, .slice none 0 0] 29)).alloc (.cells #[.bool false, .slice none 0 0] 29)).heap.size = w.heap.size + 1 + 1 + 1 + 1 := by simp
 generalize (((w.alloc (.cells #[.bool an, .slice A n c] 29)).alloc (.cells #[.bool false, .slice B m d] 29)).alloc (.cells #[.bool false, .slice none 0 0] 29)).alloc (.cells #[.bool false, .slice none 0 0] 29) = W at *
 have HSZ := Lib.hid hsz
 clear hsz
 have TA := Lib.hid (h.ta (c := c) hBW)
 have TB := Lib.hid (h'.ta (c := d) hBW)
 rw [Int.natAbs_natCast] at TB
 generalize za.natAbs = a at *
 clear h h' hla hlb hb0 hdv hy
 go_upto_region 1 with fail
 have hS : ∀ w', Kp W w' → (w'.cell? ⟨w.heap.size, 1, none⟩ = some (.slice A n c) ∧ w'.cell? ⟨w.heap.size + 1, 1, none⟩ = some (.slice B m d)) ∧ Kp W w' := fun w' hk => ⟨⟨(hk.blk hB0).cell 1, (hk.blk hB1).cell 1⟩, hk⟩
 have HS := Lib.hid hS
 have s5 := Kp.refl W
 clear hS
 go_cut [7, 8] (fun s t wx => ∃ A1 n1 c1 A2 n2 c2, s = .slice A1 n1 c1 ∧ t = .slice A2 n2 c2 ∧ Hid (Kp W wx ∧ HA wx A1 n1 c1 a ∧ HA wx A2 n2 c2 b))
 case first =>
  go_region_held3 (fun w' => (w'.cell? ⟨w.heap.size, 1, none⟩ = some (.slice A n c) ∧ w'.cell? ⟨w.heap.size + 1, 1, none⟩ = some (.slice B m d)) ∧ Kp W w')
   (first | (with_reducible refine HS.out _ ?_; with_reducible assumption) | (with_reducible refine HS.out _ (Kp.drew ?_); with_reducible assumption) | (with_reducible refine' HS.out _ (Kp.drew (And.right ?_)); rotate_left; with_reducible assumption))
   (first
    | (go_at_call_of 97 (Value.slice A n c); have hk := And.right ‹_ ∧ Kp W _›; refine (TA.out _ hk).mono ?_; rintro e v4 ⟨A4, n4, c4, rfl, hI4, hb4⟩; have hp4 := Kp.trans hk hb4; (try have hI5 := hI5.below hb4); clear hk)
    | (go_at_call_of 97 (Value.slice B m d); have hk := And.right ‹_ ∧ Kp W _›; refine (TB.out _ hk).mono ?_; rintro e v5 ⟨A5, n5, c5, rfl, hI5, hb5⟩; have hp5 := Kp.trans hk hb5; (try have hI4 := hI4.below hb5); clear hk))
  all_goals
   (try go_wp2_with fail)
   go_meet
   first
    | exact ⟨A4, n4, c4, A5, n5, c5, rfl, rfl, Lib.hid ⟨hp5, hI4, hI5⟩⟩
    | exact ⟨A4, n4, c4, A5, n5, c5, rfl, rfl, Lib.hid ⟨hp4, hI4, hI5⟩⟩
 case rest =>
  obtain ⟨A1, n1, c1, A2, n2, c2, rfl, rfl, HV⟩ := hcut
  generalize wc = V at *
  have hn2 : n2 ≠ 0 := fun h => HAB.out.2.2.1 (HV.out.2.2.zero.1 h)
  have e1 : ((n2 : Int) == 0) = false := by simp; omega
  have e2 : (n2 == 0) = false := by simp; omega
  have TD := Lib.hid (div_ra A1 A2 n1 c1 n2 c2 a b V HV.out.2.1 HV.out.2.2 (Nat.pos_of_ne_zero HAB.out.2.2.1) (by rw [HV.out.2.1.1]; have := HAB.out.1; omega) (by rw [HV.out.2.2.1]; have := HAB.out.2.1; omega))
  have HB0 := Lib.hid (Kp.blk HV.out.1 hB0)
  have HB1 := Lib.hid (Kp.blk HV.out.1 hB1)
  have HB2 := Lib.hid (Kp.blk HV.out.1 hB2)
  have HB3 := Lib.hid (Kp.blk HV.out.1 hB3)
  have HBW := Lib.hid (hBW.trans (Below.mono HV.out.1 hBW.size))
  have HSV := Lib.hid (show w.heap.size + 1 + 1 + 1 + 1 ≤ V.heap.size by have := HSZ.out; have := Below.size HV.out.1; omega)
  clear TA TB HS s5 hB0 hB1 hB2 hB3 hBW HV hn2
  go_wp2_with fail
  refine TD.out.mono ?_
  rintro e v7 ⟨A6, n6, c6, A7, n7, c7, rfl, h6, h7, hb7⟩
  rw [HAB.out.2.2.2.1] at h7
  obtain rfl : n7 = 0 := h7.zero.2 rfl
  have hl6 : n6 ≤ 6000000000 := by rw [h6.1]; exact Nat.le_trans (hd_len_mono (Nat.div_le_self a b)) HAB.out.1
  have TQ := Lib.hid (fun (W' : World) (hW : Kp v7 W') => of_any an A6 n6 c6 (a / b) W' (h6.below hW).ra (by omega))
  rw [HAB.out.2.2.2.2] at TQ
  have TR := Lib.hid (fun (W' : World) (hW : Kp v7 W') => of_any false A7 0 c7 0 W' (h7.below hW).ra (by omega))
  simp only [show sg false 0 = ((0 : Nat) : Int) from rfl] at TR
  have hB0 := HB0.out.below hb7 HB0.out.lt
  have hB1 := HB1.out.below hb7 HB1.out.lt
  have hB2 := HB2.out.below hb7 HB2.out.lt
  have hB3 := HB3.out.below hb7 HB3.out.lt
  have HBW7 := Lib.hid (HBW.out.trans (hb7.mono HBW.out.size))
  have HSV7 := Lib.hid (Nat.le_trans HSV.out hb7.size)
  obtain ⟨p0, p1, -, -⟩ := hB0.two
  obtain ⟨p2, p3, -, -⟩ := hB1.two
  have g1 : decide ((0 : Int) < ((0 : Nat) : Int)) = false := by decide
  clear h6 h7 hl6 hb7 HB0 HB1 HB2 HB3 HBW TD e1 e2 hB0 hB1 HSV HAB
  cases an
  all_goals
   go_wp2_with fail
   refine (TQ.out _ (Kp.refl _)).mono ?_
   rintro e v8 ⟨A8, k8, c8, rfl, hk8, hW8, hF8, hb8⟩
   go_wp2_with fail
   refine (TR.out _ hb8).mono ?_
   intro e v9 hr9
   obtain ⟨A9, k9, c9, rfl, hk9, hW9, hF9, hb9⟩ := hr9.toN
   have hb79 : Below v7.heap.size v7 v9 := hb8.trans (hb9.mono hb8.size)
   have g2 := hB2.below hb79 hB2.lt
   have g3 := hB3.below hb79 hB3.lt
   obtain ⟨d0, d1, f0, f1⟩ := g2.two
   obtain ⟨d2, d3, f2, f3⟩ := g3.two
   obtain ⟨q1, q2, q3⟩ := retD_close (A' := A9) (k' := k9) (c' := c9) (HBW7.out.trans (hb79.mono HBW7.out.size)) hk8 (hW8.below hb9) ((hF8.keep hW8 hb9).mono HSV7.out) g2 g3
   have D0 := Lib.hid (q2.cell 0)
   have D1 := Lib.hid (q2.cell 1)
   have D2 := Lib.hid (q3.cell 0)
   have D3 := Lib.hid (q3.cell 1)
   have HF := Lib.hid q1
   clear q1 q2 q3 hb79 hb9 hb8 hW8 hF8 hW9 hF9 g2 g3 hB2 hB3 hr9 TQ TR
   go_wp2
   refine bodyPost_ret (v := _) ?_ rfl HF.out
   have d0 := D0.out
   have d1 := D1.out
   have d2 := D2.out
   have d3 := D3.out
   simp at d0 d1 d2 d3
   simp [results, Tryz.results122, go_sem, d0, d1, d2, d3]

end Go.Proofs.YtodkhjihkkmplaaGreat

namespace Go.Proofs.YtodkhjihkkmplaaGreat
set_option linter.unusedVariables false
set_option linter.unusedSimpArgs false
open Go.RowKit
open Wd

set_option maxRecDepth 100000 in
set_option maxHeartbeats 2000000 in
theorem rcmp_z (A B : Option Addr) (n c m d a b : Nat) (w : World) (h : ZK w false A n (a : Int)) (h' : ZK w false B m (b : Int)) (ha : 0 < a) (hb : 0 < b) :
  Calls Tryz.prog 123 #[.agg #[.bool false, .slice A n c], .agg #[.bool false, .slice B m d]] w fun e w' => e = .returned (.int .i64 (cmpN a b)) ∧ Below w.heap.size w w' := by
 have hla := h.len
 have hlb := h'.len
 rw [Int.natAbs_natCast] at hla hlb
 have TC := Lib.hid (fun (W : World) (A1 : Option Addr) (n1 c1 : Nat) (A2 : Option Addr) (n2 c2 : Nat) (h1 : HA W A1 n1 c1 a) (h2 : HA W A2 n2 c2 b) => cmp_ra A1 A2 n1 c1 n2 c2 a b W h1.ra h2.ra (by rw [h1.1]; omega) (by rw [h2.1]; omega))
 go_enter Tryz.func123, Tryz.ntmps123
 go_wp2_with fail
 obtain ⟨hB0, hB1, hBW, hsz⟩ := pre2 w 29 #[.bool false, .slice A n c] 29 #[.bool false, .slice B m d]
 generalize (w.alloc (.cells #[.bool false, .slice A n c] 29)).alloc (.cells #[.bool false, .slice B m d] 29) = W at *
 have HSZ := Lib.hid hsz
 clear hsz
 have TA := Lib.hid (h.ta (c := c) hBW)
 have TB := Lib.hid (h'.ta (c := d) hBW)
 rw [Int.natAbs_natCast] at TA TB
 have SA := Lib.hid (fun W' (hW : Kp W W') => rsign_z false A n c (a : Int) W' (h.below (hBW.trans (Below.mono hW hBW.size))))
 have SB := Lib.hid (fun W' (hW : Kp W W') => rsign_z false B m d (b : Int) W' (h'.below (hBW.trans (Below.mono hW hBW.size))))
 rw [cmpI_gt (show (0 : Int) < (a : Int) by omega)] at SA
 rw [cmpI_gt (show (0 : Int) < (b : Int) by omega)] at SB
 have s5 := Kp.refl W
 have HBW := Lib.hid hBW
 clear h h' hla hlb ha hb hBW
 have hS : ∀ w', Kp W w' → (w'.cell? ⟨w.heap.size, 0, none⟩ = some (.bool false) ∧ w'.cell? ⟨w.heap.size, 1, none⟩ = some (.slice A n c) ∧ w'.cell? ⟨w.heap.size + 1, 0, none⟩ = some (.bool false) ∧ w'.cell? ⟨w.heap.size + 1, 1, none⟩ = some (.slice B m d)) ∧ Kp W w' := fun w' hk => ⟨⟨(hk.blk hB0).cell 0, (hk.blk hB0).cell 1, (hk.blk hB1).cell 0, (hk.blk hB1).cell 1⟩, hk⟩
 have HS := Lib.hid hS
 clear hS
 go_region_held3 (fun w' => (w'.cell? ⟨w.heap.size, 0, none⟩ = some (.bool false) ∧ w'.cell? ⟨w.heap.size, 1, none⟩ = some (.slice A n c) ∧ w'.cell? ⟨w.heap.size + 1, 0, none⟩ = some (.bool false) ∧ w'.cell? ⟨w.heap.size + 1, 1, none⟩ = some (.slice B m d)) ∧ Kp W w')
  (first | (with_reducible refine HS.out _ ?_; with_reducible assumption) | (with_reducible refine HS.out _ (Kp.drew ?_); with_reducible assumption) | (with_reducible refine' HS.out _ (Kp.drew (And.right ?_)); rotate_left; with_reducible assumption))
  (first
   | (go_at_call_of 66 (Value.agg #[Value.bool false, Value.slice A n c]); have hk := And.right ‹_ ∧ Kp W _›; refine (SA.out _ hk).mono ?_; rintro e v4 ⟨rfl, hb⟩; have hp := Kp.trans hk hb; clear hk hb)
   | (go_at_call_of 66 (Value.agg #[Value.bool false, Value.slice B m d]); have hk := And.right ‹_ ∧ Kp W _›; refine (SB.out _ hk).mono ?_; rintro e v5 ⟨rfl, hb⟩; have hp := Kp.trans hk hb; clear hk hb))
 all_goals
  clear HS
  go_wp2_with fail
  have hS : ∀ w', Kp W w' → (w'.cell? ⟨w.heap.size, 1, none⟩ = some (.slice A n c) ∧ w'.cell? ⟨w.heap.size + 1, 1, none⟩ = some (.slice B m d)) ∧ Kp W w' := fun w' hk => ⟨⟨(hk.blk hB0).cell 1, (hk.blk hB1).cell 1⟩, hk⟩
  have HS2 := Lib.hid hS
  clear hS
  go_region_held3 (fun w' => (w'.cell? ⟨w.heap.size, 1, none⟩ = some (.slice A n c) ∧ w'.cell? ⟨w.heap.size + 1, 1, none⟩ = some (.slice B m d)) ∧ Kp W w')
   (first | (with_reducible refine HS2.out _ ?_; with_reducible assumption) | (with_reducible refine HS2.out _ (Kp.drew ?_); with_reducible assumption) | (with_reducible refine' HS2.out _ (Kp.drew (And.right ?_)); rotate_left; with_reducible assumption))
   (first
    | (go_at_call_of 97 (Value.slice A n c); have hk := And.right ‹_ ∧ Kp W _›; refine (TA.out _ hk).mono ?_; rintro e v4 ⟨A4, n4, c4, rfl, hI4, hb4⟩; have hp := Kp.trans hk hb4; (try have hI5 := hI5.below hb4); clear hk hb4)
    | (go_at_call_of 97 (Value.slice B m d); have hk := And.right ‹_ ∧ Kp W _›; refine (TB.out _ hk).mono ?_; rintro e v5 ⟨A5, n5, c5, rfl, hI5, hb5⟩; have hp := Kp.trans hk hb5; (try have hI4 := hI4.below hb5); clear hk hb5)
    | (go_at_call 129; have hk := And.right ‹_ ∧ Kp W _›; refine (TC.out _ _ _ _ _ _ _ hI4 hI5).mono ?_; rintro e v9 ⟨rfl, hv9⟩; rw [hv9]; clear hv9))
  all_goals
   clear HS2
   have hB0' := hp.blk hB0
   obtain ⟨p0, p1, -, -⟩ := hB0'.two
   go_wp2_with fail
   refine (SA.out _ hp).mono ?_
   rintro e v9 ⟨rfl, hb9⟩
   have HF := Lib.hid (HBW.out.trans ((Below.mono hp HBW.out.size).trans (hb9.mono (Nat.le_trans HBW.out.size (Below.size hp)))))
   clear hb9 hp hB0' hB0 hB1 p0 p1 hI4 hI5
   go_wp2
   go_ret
   exact ⟨rfl, HF.out⟩

end Go.Proofs.YtodkhjihkkmplaaGreat
