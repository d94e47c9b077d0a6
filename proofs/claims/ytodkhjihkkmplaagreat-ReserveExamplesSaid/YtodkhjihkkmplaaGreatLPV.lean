/-
The reference of layer 1 at numbers of any size: div. The reference of layer 1 at numbers of any size: div by one digit, and by many. No statement of the seat is proved here; no conditions beyond those of each theorem.
-/
import Derived.Test.YtodkhjihkkmplaaGreatLPU
namespace Go.Proofs.YtodkhjihkkmplaaGreat
set_option linter.unusedVariables false
set_option linter.unusedSimpArgs false
open Go.RowKit
open Wd

/-- A block of ints that is written in place. -/
def DRow (w : World) (g : Nat) (xs : List Int) : Prop := Blk w g 3 (xs.map (Value.int .i64)).toArray
theorem DRow.cell {w : World} {g : Nat} {xs : List Int} (h : DRow w g xs) {i : Nat} (hi : i < xs.length) : w.cell? ⟨g, i, none⟩ = some (.int .i64 (xs[i]?.getD 0)) := by
 rw [Blk.cell h i]
 simp [hi]
theorem DRow.frozen {w : World} {g : Nat} {xs : List Int} (h : DRow w g xs) (i : Nat) : w.frozen? ⟨g, i, none⟩ = false := Blk.frozen h i
theorem DRow.set {w : World} {g : Nat} {xs : List Int} (h : DRow w g xs) (i : Nat) (v : Int) : DRow (w.setCell ⟨g, i, none⟩ (.int .i64 v)) g (xs.set i v) := by
 have := Blk.set h i (.int .i64 v)
 unfold DRow
 simpa [List.map_set] using this
theorem DRow.kp {w w' : World} {g : Nat} {xs : List Int} (h : DRow w g xs) (hb : Kp w w') : DRow w' g xs := Blk.below h hb (Blk.lt h)
theorem DRow.at {w : World} {g : Nat} {xs : List Int} {n : Nat} (h : DRow w g xs) (hl : xs.length = n) : IsAt w (some ⟨g, 0, none⟩) n xs :=
 ⟨hl, fun _ => ⟨g, 0, rfl, Blk.lt h, fun j hj => by rw [Nat.zero_add]; exact h.cell (by omega)⟩⟩
theorem DRow.start (w : World) (n : Nat) : DRow (w.alloc (.cells (Array.replicate n (.int .i64 0)) 3)) w.heap.size (List.replicate n 0) := by
 unfold DRow
 have := Blk.new w 3 (Array.replicate n (.int .i64 0))
 simpa using this
theorem run_make_q (k : Nat) (hk : k ≤ 20000000000) (w : World) :
  (Instr.makeSlice 66 (.int .i64 (k : Int)) (.int .i64 (k : Int))).run Tryz.prog w = .ok (.slice (some ⟨w.heap.size, 0, none⟩) k k) (w.alloc (.cells ((List.replicate k (0 : Int)).map (Value.int .i64)).toArray 3)) := by
 obtain ⟨i0, hi, hz0, hz1, hz2⟩ := info_parts (show (Tryz.prog.info? 3).map (fun i => (i.zero, i.size, i.bytes)) = some (some (.int .i64 0), 1, 8) by kernel_rfl)
 have h := run_make (P := Tryz.prog) w 66 3 i0 _ Tryz.underlying66 hi hz0 .i64 .i64 k k (by omega) (Int.le_refl _) (by rw [hz2]; omega) (by omega)
 rw [h, hz1]
 simp only [Int.toNat_natCast, Value.cells, Nat.mul_one]
 rw [made_ints]
/-- Quotient and rest handed back. -/
def RetHH (w : World) (q r : Nat) (e : Ending) (w' : World) : Prop := ∃ A1 n1 c1 A2 n2 c2, e = .returned (.tuple #[.slice A1 n1 c1, .slice A2 n2 c2]) ∧ HA w' A1 n1 c1 q ∧ HA w' A2 n2 c2 r ∧ Below w.heap.size w w'
theorem QuoI.ra {v n g : Nat} {hs : List Int} {w : World} (h : QuoI v n 0 hs) (hr : DRow w g hs) (hv : v < 65536 ^ n) : RA w (some ⟨g, 0, none⟩) n n v := by
 obtain ⟨h1, h2⟩ := h.done hv
 exact ⟨hs, hr.at h.1, h1, h2, Nat.le_refl _⟩
theorem HA.lt_of_len {w w' : World} {A B : Option Addr} {n c m d a b : Nat} (h : HA w A n c a) (h' : HA w' B m d b) (hlt : n < m) : a < b := by
 rcases Nat.lt_or_ge a b with h1 | h1
 ·exact h1
 ·have := hd_len_mono h1
  rw [← h.1, ← h'.1] at this
  omega
theorem lit1 (w : World) (r0 : Int) : IsAt (w.alloc (.cells #[.int .i64 r0] 3)) (some ⟨w.heap.size, 0, none⟩) 1 [r0] := by
 have hB := Blk.new w 3 #[.int .i64 r0]
 refine ⟨rfl, fun _ => ⟨w.heap.size, 0, rfl, hB.lt, fun j hj => ?_⟩⟩
 rw [Nat.zero_add, hB.cell]
 obtain rfl : j = 0 := by omega
 rfl
theorem lit1_ra (w : World) {r : Nat} (h : r < 65536) : RA (w.alloc (.cells #[.int .i64 (r : Int)] 3)) (some ⟨w.heap.size, 0, none⟩) 1 1 r :=
 ⟨[(r : Int)], lit1 w _, Dg.cons (by omega) (by omega) Dg.nil, by simp [vh], Nat.le_refl _⟩

set_option maxRecDepth 100000 in
set_option maxHeartbeats 1000000 in
theorem div_small (A B : Option Addr) (n c m d a b : Nat) (w : World) (h : RA w A n c a) (h' : RA w B m d b) (hb0 : 0 < b) (hn : n ≤ 3) (hm : m ≤ 3) :
  Calls Tryz.prog 153 #[.slice A n c, .slice B m d] w (RetHH w (a / b) (a % b)) := by
 have ha : a < 281474976710656 := Nat.lt_of_lt_of_le h.lt (Nat.pow_le_pow_right (by decide) hn)
 have hb : b < 281474976710656 := Nat.lt_of_lt_of_le h'.lt (Nat.pow_le_pow_right (by decide) hm)
 have d1 : decide ((n : Int) ≤ 3) = true := decide_eq_true (by omega)
 have d2 : decide ((m : Int) ≤ 3) = true := decide_eq_true (by omega)
 have d3 : decide (n ≤ 3) = true := decide_eq_true (by omega)
 have d4 : decide (m ≤ 3) = true := decide_eq_true (by omega)
 have S1 := Lib.hid (fun W (hW : Below w.heap.size w W) => small_ra A n c a W (h.below hW) hn)
 have S2 := Lib.hid (fun W (hW : Below w.heap.size w W) => small_ra B m d b W (h'.below hW) hm)
 have hq : (a : Int).tdiv b = ((a / b : Nat) : Int) := by rw [Int.tdiv_eq_ediv_of_nonneg (Int.natCast_nonneg _)]; simp
 have hq' : (a : Int) / b = ((a / b : Nat) : Int) := by simp
 have hr : (a : Int).tmod b = ((a % b : Nat) : Int) := by rw [Int.tmod_eq_emod_of_nonneg (Int.natCast_nonneg _)]; simp
 have hr' : (a : Int) % b = ((a % b : Nat) : Int) := by simp
 have hxy : a / b ≤ a := Nat.div_le_self _ _
 have hxm : a % b ≤ a := Nat.mod_le _ _
 have hyz : ((b : Int) = 0) = False := by simp; omega
 have hyn : (b = 0) = False := by simp; omega
 have B1 := Lib.hid (fun W => back_ra (a / b) W (Nat.lt_of_le_of_lt hxy ha))
 have B2 := Lib.hid (fun W => back_ra (a % b) W (Nat.lt_of_le_of_lt hxm ha))
 obtain ⟨w1, u1⟩ := wr_nat (Nat.le_of_lt (Nat.lt_of_le_of_lt hxy ha))
 obtain ⟨w2, u2⟩ := wr_nat (Nat.le_of_lt (Nat.lt_of_le_of_lt hxm ha))
 generalize a / b = q at *
 generalize a % b = r at *
 have x1 : (0 : Int) ≤ (a : Int) := Int.natCast_nonneg _
 have y1 : (0 : Int) < (b : Int) := Int.natCast_pos.2 hb0
 have y2 : (b : Int) ≠ 0 := by simp at hyz; exact fun e => hyz (by exact_mod_cast e)
 clear h h' hxy hxm hn hm ha hb
 go_enter Tryz.func153, Tryz.ntmps153
 go_wp2_with fail
 refine (S1.out _ (Below.refl _ _)).mono ?_
 rintro e w1 ⟨rfl, rfl⟩
 go_wp2_with fail
 refine (S2.out _ (Below.refl _ _)).mono ?_
 rintro e w1 ⟨rfl, rfl⟩
 go_wp2_with fail
 refine (B1.out _).mono ?_
 rintro e w2 ⟨A1, n1, c1, rfl, h1, hb2⟩
 have H1 := Lib.hid h1
 have HB2 := Lib.hid hb2
 clear h1 hb2
 go_wp2_with fail
 refine (S1.out _ HB2.out).mono ?_
 rintro e w3 ⟨rfl, rfl⟩
 go_wp2_with fail
 refine (S2.out _ HB2.out).mono ?_
 rintro e w3 ⟨rfl, rfl⟩
 go_wp2_with fail
 refine (B2.out _).mono ?_
 rintro e w3 ⟨A2, n2, c2, rfl, h2, hb3⟩
 have H2 := Lib.hid h2
 have H1 := Lib.hid (H1.out.below hb3)
 have HB3 := Lib.hid (HB2.out.trans (hb3.mono HB2.out.size))
 clear h2 hb3
 go_wp2
 go_ret2
 exact ⟨A1, n1, c1, A2, n2, c2, rfl, H1.out, H2.out, HB3.out⟩

end Go.Proofs.YtodkhjihkkmplaaGreat

namespace Go.Proofs.YtodkhjihkkmplaaGreat
set_option linter.unusedVariables false
set_option linter.unusedSimpArgs false
open Go.RowKit
open Wd

set_option maxRecDepth 100000 in
set_option maxHeartbeats 2000000 in
theorem div_digit (A B : Option Addr) (n c d a b : Nat) (w : World) (h : RA w A n c a) (h' : RA w B 1 d b) (hb0 : 0 < b) (hn3 : 3 < n) (hn : n ≤ 12000000000) :
  Calls Tryz.prog 153 #[.slice A n c, .slice B 1 d] w (RetHH w (a / b) (a % b)) := by
 have hb : b < 65536 := by have := h'.lt; simpa using this
 obtain ⟨bb, ob, hBe, hbb, hcb⟩ := h'.cells (by omega)
 have cb := hcb 0 (by omega)
 have edb : dg b 0 = b := by unfold dg; simp; omega
 rw [edb, Nat.add_zero] at cb
 subst hBe
 have HX := Lib.hid h
 have HC := Lib.hid cb
 have HBB := Lib.hid hbb
 have HAL := Lib.hid h.lt
 have d1 : decide ((n : Int) ≤ 3) = false := decide_eq_false (by omega)
 have d2 : decide (n ≤ 3) = false := decide_eq_false (by omega)
 clear h h' hcb edb cb hbb
 have hmk := fun w => run_make_q n (by omega) w
 go_enter Tryz.func153, Tryz.ntmps153
 go_wp2_with fail
 have hrow := DRow.start w n
 have hbel : Below w.heap.size w (w.alloc (.cells (Array.replicate n (.int .i64 0)) 3)) := (Below.refl _ _).alloc (Nat.le_refl _) _
 generalize w.alloc (.cells (Array.replicate n (.int .i64 0)) 3) = W at *
 have HROW := Lib.hid hrow
 have HBEL := Lib.hid hbel
 clear hrow hbel hmk d1 d2
 go_loopw [7, 8] (fun t7 t8 wr => ∃ (t : Nat) (hs : List Int), t ≤ n ∧ t8 = .int .i64 ((t : Int) - 1) ∧ t7 = .int .i64 ((rst a b t : Nat) : Int) ∧ Hid (Below w.heap.size w wr ∧ DRow wr w.heap.size hs ∧ QuoI (a / b) n t hs)) (fun _ t8 _ => (intOf t8 + 1).toNat)
 case atStart => exact ⟨n, List.replicate n 0, Nat.le_refl _, by first | rfl | go_num, by rw [rst_top HAL.out]; rfl, HBEL.out, HROW.out, QuoI.start _ _⟩
 case round =>
  clear HROW HBEL
  obtain ⟨t, hs, ht, rfl, rfl, hR⟩ := hrel
  by_cases h0 : t = 0
  ·subst h0
   obtain ⟨hB, hro, hq⟩ := hR.out
   have hra := hq.ra hro (Nat.lt_of_le_of_lt (Nat.div_le_self _ _) HAL.out)
   rw [rst_zero]
   have hml : a % b < 65536 := Nat.lt_trans (Nat.mod_lt _ hb0) hb
   have T := Lib.hid (trim_ra _ n n (a / b) wr hra (by omega))
   have k1 := (Kp.refl wr).alloc (.cells #[.int .i64 ((a % b : Nat) : Int)] 3)
   have T2 := Lib.hid (trim_ra _ 1 1 (a % b) _ (lit1_ra wr hml) (by omega))
   have HB := Lib.hid (hB.trans (Below.mono k1 hB.size))
   have HK1 := Lib.hid k1
   generalize a % b = r at *
   clear hB hra hR hq hro k1 hml
   go_wp2_with fail
   refine T.out.mono ?_
   rintro e w1 ⟨A1, n1, rfl, h1, rfl⟩
   have H1 := Lib.hid (h1.below HK1.out)
   clear h1
   go_wp2_with fail
   refine T2.out.mono ?_
   rintro e w2 ⟨A2, n2, rfl, h2, rfl⟩
   have H2 := Lib.hid h2
   clear h2
   go_wp2
   go_ret2
   exact ⟨A1, n1, n, A2, n2, 1, rfl, H1.out, H2.out, HB.out⟩
  ·obtain ⟨j, rfl⟩ : ∃ j, t = j + 1 := ⟨t - 1, by omega⟩
   obtain ⟨ba, oa, hAe, hba, hca⟩ := HX.out.cells (by omega)
   have cj0 := hca j (by omega)
   subst hAe
   have ej : (((j + 1 : Nat) : Int) - 1) = (j : Int) := by omega
   simp only [ej]
   have j1 : (0 : Int) ≤ (j : Int) := by omega
   have j2 : (j : Int) < (n : Int) := by omega
   obtain ⟨hB, hro, hq⟩ := hR.out
   have cj := (hB.cell (p := ⟨ba, oa + j, none⟩) hba).trans cj0
   have cb := (hB.cell (p := ⟨bb, ob, none⟩) HBB.out).trans HC.out
   have cq := hro.cell (i := j) (by rw [hq.1]; omega)
   have fq := hro.frozen j
   have hyz : ((b : Int) = 0) = False := by simp; omega
   have hyn : (b = 0) = False := by simp; omega
   have y1 : (0 : Int) < (b : Int) := Int.natCast_pos.2 hb0
   have hjn : j < n := by omega
   have l1 := rst_lt a b (j + 1) hb0
   have l2 := dg_lt a j
   obtain ⟨p, hp⟩ : ∃ p : Nat, p = rst a b (j + 1) * 65536 := ⟨_, rfl⟩
   obtain ⟨u, hu⟩ : ∃ u : Nat, u = p + dg a j := ⟨_, rfl⟩
   have hul : u ≤ 281474976710656 := by omega
   have e1 : IntKind.i64.wrap (((rst a b (j + 1) : Nat) : Int) * 65536) = (p : Int) := by rw [hp]; exact IntWalk.i64_in _ (by omega)
   have f1 : wrap64 (((rst a b (j + 1) : Nat) : Int) * 65536) = (p : Int) := by rw [w64_in _ (by omega)]; omega
   have e2 : IntKind.i64.wrap ((p : Int) + ((dg a j : Nat) : Int)) = (u : Int) := by rw [IntWalk.i64_in _ (by omega)]; omega
   have f2 : wrap64 ((p : Int) + ((dg a j : Nat) : Int)) = (u : Int) := by rw [w64_in _ (by omega)]; omega
   obtain ⟨hs1, hs2⟩ := rst_step a b j hb0
   rw [← hp, ← hu] at hs1 hs2
   have g1 : (u : Int).tdiv b = ((dg (a / b) j : Nat) : Int) := by rw [Int.tdiv_eq_ediv_of_nonneg (Int.natCast_nonneg _), ← hs1]; simp
   have g1' : (u : Int) / b = ((dg (a / b) j : Nat) : Int) := by rw [← hs1]; simp
   have g2 : (u : Int).tmod b = ((rst a b j : Nat) : Int) := by rw [Int.tmod_eq_emod_of_nonneg (Int.natCast_nonneg _), ← hs2]; simp
   have g2' : (u : Int) % b = ((rst a b j : Nat) : Int) := by rw [← hs2]; simp
   obtain ⟨w1, u1⟩ := wr_nat (Nat.le_trans (Nat.le_of_lt (dg_lt (a / b) j)) (by decide))
   obtain ⟨w2, u2⟩ := wr_nat (Nat.le_trans (Nat.le_of_lt (rst_lt a b j hb0)) (Nat.le_trans (Nat.le_of_lt hb) (by decide)))
   have x1 : (0 : Int) ≤ (u : Int) := Int.natCast_nonneg _
   have HF := Lib.hid (show Below w.heap.size w (wr.setCell ⟨w.heap.size, j, none⟩ (.int .i64 ((dg (a / b) j : Nat) : Int))) ∧ DRow (wr.setCell ⟨w.heap.size, j, none⟩ (.int .i64 ((dg (a / b) j : Nat) : Int))) w.heap.size (hs.set j ((dg (a / b) j : Nat) : Int)) ∧ QuoI (a / b) n j (hs.set j ((dg (a / b) j : Nat) : Int)) from ⟨hB.setCell (p := ⟨w.heap.size, j, none⟩) (Nat.le_refl _) _, hro.set j _, hq.step hjn rfl⟩)
   generalize dg a j = da at *
   generalize dg (a / b) j = qd at *
   generalize rst a b (j + 1) = r0 at *
   generalize hr1 : rst a b j = r1 at *
   have HR1 := Lib.hid hr1
   clear hr1
   generalize hs[j]?.getD 0 = old at *
   clear hs1 hs2 hu hp hca cj0 hB hro hq hR l1 l2 hul HX HC
   have hne : bb ≠ w.heap.size := Nat.ne_of_lt HBB.out
   have cb2 := (World.cell?_setCell_other wr ⟨w.heap.size, j, none⟩ ⟨bb, ob, none⟩ (.int .i64 (qd : Int)) (fun e => hne (by first | exact congrArg Addr.block e | exact (congrArg Addr.block e).symm))).trans cb
   go_wp2
   go_region_with (fail)
   all_goals
    go_wp2
    go_roundw
    case rel => exact ⟨j, _, by omega, by first | rfl | go_num, by rw [HR1.out], by first | exact Lib.hid HF.out | exact Lib.hid ⟨HF.out.1.drew, HF.out.2.1, HF.out.2.2⟩⟩
    case measure => simp [intOf]

end Go.Proofs.YtodkhjihkkmplaaGreat
