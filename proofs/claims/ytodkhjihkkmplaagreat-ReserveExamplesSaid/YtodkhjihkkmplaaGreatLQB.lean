/-
The examples of layer 30: made, ex. The statements of layer 30: fills, where it answers yes. No statement of the seat is proved here; no conditions beyond those of each theorem.
-/
import Derived.Test.YtodkhjihkkmplaaGreatLRt1
import Derived.Test.YtodkhjihkkmplaaGreatLPZ
import Derived.Test.YtodkhjihkkmplaaGreatLQA
namespace Go.Proofs.YtodkhjihkkmplaaGreat
set_option linter.unusedVariables false
set_option linter.unusedSimpArgs false
open Go.RowKit
open Wd

set_option maxHeartbeats 1000000 in
theorem made_any (p s : Int) (w : World) (h1 : Fits p) (h2 : Fits s) : Calls Tryz.prog 23 #[.int .i64 p, .int .i64 s] w fun e w' => ∃ g, e = .returned (.agg #[.int .i64 0, .int .i64 0, .slice (some ⟨g, 0, none⟩) 1 1, .int .i64 1, .int .i64 1, .int .i64 0, .int .i64 0, .int .i64 s, .int .i64 1]) ∧ Blk w' g 74 #[.int .i64 p, .int .i64 1] ∧ w.heap.size ≤ g ∧ Below w.heap.size w w' := by
 go_enter Tryz.func23, Tryz.ntmps23
 go_wp2_with fail
 obtain ⟨hB0, hB1, hBW, hsz⟩ := pre2 w 48 #[.int .i64 0, .int .i64 0, .slice (some ⟨w.heap.size + 1, 0, none⟩) 1 1, .int .i64 1, .int .i64 1, .int .i64 0, .int .i64 0, .int .i64 s, .int .i64 1] 74 #[.int .i64 p, .int .i64 1]
 generalize (w.alloc (.cells #[.int .i64 0, .int .i64 0, .slice (some ⟨w.heap.size + 1, 0, none⟩) 1 1, .int .i64 1, .int .i64 1, .int .i64 0, .int .i64 0, .int .i64 s, .int .i64 1] 48)).alloc (.cells #[.int .i64 p, .int .i64 1] 74) = W at *
 have HSZ := Lib.hid hsz
 clear hsz
 obtain ⟨d0, d1, d2, d3, d4, d5, d6, d7, d8⟩ : _ ∧ _ ∧ _ ∧ _ ∧ _ ∧ _ ∧ _ ∧ _ ∧ _ := ⟨hB0.cell 0, hB0.cell 1, hB0.cell 2, hB0.cell 3, hB0.cell 4, hB0.cell 5, hB0.cell 6, hB0.cell 7, hB0.cell 8⟩
 refine bodyPost_ret (v := .agg #[.int .i64 0, .int .i64 0, .slice (some ⟨w.heap.size + 1, 0, none⟩) 1 1, .int .i64 1, .int .i64 1, .int .i64 0, .int .i64 0, .int .i64 s, .int .i64 1]) ?_ rfl ⟨w.heap.size + 1, rfl, hB1, by omega, hBW⟩
 simp at d0 d1 d2 d3 d4 d5 d6 d7 d8
 simp [results, Tryz.results23, go_sem, d0, d1, d2, d3, d4, d5, d6, d7, d8]

/-- The units of the example. -/
def exU30 : List Un := [⟨0, 0, [(9, 1)], 1, 1, 0, 0, 2, 1⟩, ⟨0, 0, [(6, 1)], 1, 1, 0, 0, 0, 1⟩, ⟨0, 0, [(5, 1)], 1, 1, 0, 0, 2, 1⟩]
def exQ30 : List Rat := [((5 : Int) : Rat), ((4 : Int) : Rat), mkRat (qnum 5 2) (qden 2).natAbs]
theorem st_one {w : World} {g : Nat} {p : Int} (h : Blk w g 74 #[.int .i64 p, .int .i64 1]) (hp : Fits p) : StAt w (some ⟨g, 0, none⟩) 1 [(p, 1)] :=
 ⟨rfl, by intro s hs; simp at hs; subst hs; exact ⟨hp, by unfold Fits; omega⟩, fun _ => ⟨g, 0, rfl, h.lt, fun j hj => by
  obtain rfl : j = 0 := by omega
  exact ⟨h.cell 0, h.cell 1⟩⟩⟩
theorem qk_ret {w : World} {A A' : Option Addr} {k c k' c' : Nat} {q : Rat} {K : Nat} (h1 : k ≤ c) (h2 : k' ≤ c') (h3 : Wat w A k (digs q.num.natAbs)) (h4 : Wat w A' k' (denW q.den)) (hl : Lv K q) (hK : K ≤ 18) : QK K w (decide (q.num < 0)) A k c false A' k' c' q := wat_qk h1 h2 h3 h4 hl hK

set_option maxRecDepth 100000 in
set_option maxHeartbeats 2000000 in
theorem ex30_any (w : World) : Calls Tryz.prog 19 #[] w fun e w' => ∃ gu gb gq, e = .returned (.tuple #[.slice (some ⟨gu, 0, none⟩) 3 3, .slice (some ⟨gb, 0, none⟩) 3 3, .slice (some ⟨gq, 0, none⟩) 3 3]) ∧
  UsAt w' (some ⟨gu, 0, none⟩) 3 exU30 ∧ BsAt w' (some ⟨gb, 0, none⟩) 3 [true, true, true] ∧ GsAt 0 w' (some ⟨gq, 0, none⟩) 3 exQ30 ∧ Below w.heap.size w w' := by
 have M1 := Lib.hid (fun W => made_any 9 2 W (by unfold Fits; omega) (by unfold Fits; omega))
 have M2 := Lib.hid (fun W => made_any 6 0 W (by unfold Fits; omega) (by unfold Fits; omega))
 have M3 := Lib.hid (fun W => made_any 5 2 W (by unfold Fits; omega) (by unfold Fits; omega))
 have I1 := Lib.hid (fun W => rint_any 5 W (by omega) (by omega))
 have I2 := Lib.hid (fun W => rint_any 4 W (by omega) (by omega))
 have I3 := Lib.hid (fun W => rofq 5 2 W (by decide) (by decide))
 go_enter Tryz.func19, Tryz.ntmps19
 go_wp2_with fail
 refine (M1.out _).mono ?_
 rintro e w1 ⟨g1, rfl, h1, l1, hb1⟩
 go_wp2_with fail
 refine (M2.out _).mono ?_
 rintro e w2 ⟨g2, rfl, h2, l2, hb2⟩
 have h1 := h1.below hb2 h1.lt
 have hb12 := hb1.trans (hb2.mono hb1.size)
 clear hb1 hb2
 go_wp2_with fail
 refine (M3.out _).mono ?_
 rintro e w3 ⟨g3, rfl, h3, l3, hb3⟩
 have h1 := h1.below hb3 h1.lt
 have h2 := h2.below hb3 h2.lt
 have hb13 := hb12.trans (hb3.mono hb12.size)
 clear hb12 hb3 M1 M2 M3
 have hx : Below w3.heap.size w3 ((w3.alloc (.cells #[.int .i64 0, .int .i64 0, .slice (some ⟨g1, 0, none⟩) 1 1, .int .i64 1, .int .i64 1, .int .i64 0, .int .i64 0, .int .i64 2, .int .i64 1, .int .i64 0, .int .i64 0, .slice (some ⟨g2, 0, none⟩) 1 1, .int .i64 1, .int .i64 1, .int .i64 0, .int .i64 0, .int .i64 0, .int .i64 1, .int .i64 0, .int .i64 0, .slice (some ⟨g3, 0, none⟩) 1 1, .int .i64 1, .int .i64 1, .int .i64 0, .int .i64 0, .int .i64 2, .int .i64 1] 48)).alloc (.cells #[.bool true, .bool true, .bool true] 4)) := ((Below.refl _ _).alloc (Nat.le_refl _) _).alloc (by simp only [World.size_alloc]; omega) _
 have hU := (Blk.new w3 48 #[.int .i64 0, .int .i64 0, .slice (some ⟨g1, 0, none⟩) 1 1, .int .i64 1, .int .i64 1, .int .i64 0, .int .i64 0, .int .i64 2, .int .i64 1, .int .i64 0, .int .i64 0, .slice (some ⟨g2, 0, none⟩) 1 1, .int .i64 1, .int .i64 1, .int .i64 0, .int .i64 0, .int .i64 0, .int .i64 1, .int .i64 0, .int .i64 0, .slice (some ⟨g3, 0, none⟩) 1 1, .int .i64 1, .int .i64 1, .int .i64 0, .int .i64 0, .int .i64 2, .int .i64 1]).alloc (.cells #[.bool true, .bool true, .bool true] 4)
 have hV := Blk.new1 w3 (.cells #[.int .i64 0, .int .i64 0, .slice (some ⟨g1, 0, none⟩) 1 1, .int .i64 1, .int .i64 1, .int .i64 0, .int .i64 0, .int .i64 2, .int .i64 1, .int .i64 0, .int .i64 0, .slice (some ⟨g2, 0, none⟩) 1 1, .int .i64 1, .int .i64 1, .int .i64 0, .int .i64 0, .int .i64 0, .int .i64 1, .int .i64 0, .int .i64 0, .slice (some ⟨g3, 0, none⟩) 1 1, .int .i64 1, .int .i64 1, .int .i64 0, .int .i64 0, .int .i64 2, .int .i64 1] 48) 4 #[.bool true, .bool true, .bool true]
 have HX := Lib.hid (And.intro hx (And.intro hU (And.intro hV (And.intro (h1.below hx h1.lt) (And.intro (h2.below hx h2.lt) (And.intro (h3.below hx h3.lt) (hb13.trans (hx.mono hb13.size))))))))
 clear hx hU hV h1 h2 h3 hb13
 go_wp2_with fail
 generalize (w3.alloc (.cells #[.int .i64 0, .int .i64 0, .slice (some ⟨g1, 0, none⟩) 1 1, .int .i64 1, .int .i64 1, .int .i64 0, .int .i64 0, .int .i64 2, .int .i64 1, .int .i64 0, .int .i64 0, .slice (some ⟨g2, 0, none⟩) 1 1, .int .i64 1, .int .i64 1, .int .i64 0, .int .i64 0, .int .i64 0, .int .i64 1, .int .i64 0, .int .i64 0, .slice (some ⟨g3, 0, none⟩) 1 1, .int .i64 1, .int .i64 1, .int .i64 0, .int .i64 0, .int .i64 2, .int .i64 1] 48)).alloc (.cells #[.bool true, .bool true, .bool true] 4) = W at *
 refine (I1.out _).mono ?_
 rintro e w4 ⟨A4, k4, c4, B4, j4, e4, rfl, hk4, hj4, hW4, hX4, hF4, hG4, hb4⟩
 go_wp2_with fail
 refine (I2.out _).mono ?_
 rintro e w5 ⟨A5, k5, c5, B5, j5, e5, rfl, hk5, hj5, hW5, hX5, hF5, hG5, hb5⟩
 have hW4 := hW4.below hb5
 have hX4 := hX4.below hb5
 go_wp2_with fail
 refine (I3.out _).mono ?_
 rintro e w6 ⟨A6, k6, c6, B6, j6, e6, rfl, hk6, hj6, hW6, hX6, hF6, hG6, hb6⟩
 have hb46 : Below W.heap.size W w6 := (hb4.trans (hb5.mono hb4.size)).trans (hb6.mono (Nat.le_trans hb4.size hb5.size))
 have q4 := qk_ret (K := 0) hk4 hj4 (hW4.below hb6) (hX4.below hb6) (lv_int 0 (by decide)) (by omega)
 have q5 := qk_ret (K := 0) hk5 hj5 (hW5.below hb6) (hX5.below hb6) (lv_int 0 (by decide)) (by omega)
 have q4 : QK 0 w6 false A4 k4 c4 false B4 j4 e4 _ := q4
 have q5 : QK 0 w6 false A5 k5 c5 false B5 j5 e5 _ := q5
 have q6 := qk_ret (K := 0) hk6 hj6 hW6 hX6 (show Lv 0 (mkRat (qnum 5 2) (qden 2).natAbs) from lv_mk (by decide) (Nat.lt_trans (by decide) pb_zero) (Nat.lt_trans (by decide) pb_zero)) (by omega)
 have HY := Lib.hid (And.intro hb46 (And.intro q4 (And.intro q5 q6)))
 generalize s6 : decide ((mkRat (qnum 5 2) (qden 2).natAbs).num < 0) = x6 at *
 clear hb4 hb5 hb6 hW4 hX4 hW5 hX5 hW6 hX6 hF4 hG4 hF5 hG5 hF6 hG6 hk4 hj4 hk5 hj5 hk6 hj6 hb46 q4 q5 q6 I1 I2 I3
 have hQ := Blk.new w6 31 #[.bool false, .slice A4 k4 c4, .bool false, .slice B4 j4 e4, .bool false, .slice A5 k5 c5, .bool false, .slice B5 j5 e5, .bool x6, .slice A6 k6 c6, .bool false, .slice B6 j6 e6]
 have hq0 : Below w6.heap.size w6 (w6.alloc (.cells #[.bool false, .slice A4 k4 c4, .bool false, .slice B4 j4 e4, .bool false, .slice A5 k5 c5, .bool false, .slice B5 j5 e5, .bool x6, .slice A6 k6 c6, .bool false, .slice B6 j6 e6] 31)) := (Below.refl _ _).alloc (Nat.le_refl _) _
 have HQ := Lib.hid (And.intro hQ hq0)
 clear hQ hq0
 go_wp2_with fail
 refine bodyPost_ret (v := .tuple #[.slice (some ⟨w3.heap.size, 0, none⟩) 3 3, .slice (some ⟨w3.heap.size + 1, 0, none⟩) 3 3, .slice (some ⟨w6.heap.size, 0, none⟩) 3 3]) (by simp [results, Tryz.results19, go_sem]) rfl ?_
 obtain ⟨hx, hU, hV, h1, h2, h3, hB⟩ := HX.out
 obtain ⟨hb46, q4, q5, q6⟩ := HY.out
 obtain ⟨hQ, hq0⟩ := HQ.out
 have hW9 := hb46.trans (hq0.mono hb46.size)
 have hU := hU.below hW9 hU.lt
 have hV := hV.below hW9 hV.lt
 have h1 := h1.below hW9 h1.lt
 have h2 := h2.below hW9 h2.lt
 have h3 := h3.below hW9 h3.lt
 refine ⟨w3.heap.size, w3.heap.size + 1, w6.heap.size, rfl, ⟨rfl, fun _ => ⟨_, 0, rfl, hU.lt, fun j hj => ?_⟩⟩, ⟨rfl, fun _ => ⟨_, 0, rfl, hV.lt, fun j hj => ?_⟩⟩, ⟨rfl, fun _ => ⟨_, 0, rfl, hQ.lt, fun j hj => ?_⟩⟩, hB.trans (hW9.mono hB.size)⟩
 ·match j, hj with
  | 0, _ => exact ⟨_, 1, 1, ⟨hU.cell 0, hU.cell 1, hU.cell 2, hU.cell 3, hU.cell 4, hU.cell 5, hU.cell 6, hU.cell 7, hU.cell 8⟩, st_one h1 (by unfold Fits; omega), by omega⟩
  | 1, _ => exact ⟨_, 1, 1, ⟨hU.cell 9, hU.cell 10, hU.cell 11, hU.cell 12, hU.cell 13, hU.cell 14, hU.cell 15, hU.cell 16, hU.cell 17⟩, st_one h2 (by unfold Fits; omega), by omega⟩
  | 2, _ => exact ⟨_, 1, 1, ⟨hU.cell 18, hU.cell 19, hU.cell 20, hU.cell 21, hU.cell 22, hU.cell 23, hU.cell 24, hU.cell 25, hU.cell 26⟩, st_one h3 (by unfold Fits; omega), by omega⟩
 ·match j, hj with
  | 0, _ => exact hV.cell 0
  | 1, _ => exact hV.cell 1
  | 2, _ => exact hV.cell 2
 ·match j, hj with
  | 0, _ => exact ⟨_, _, _, _, _, _, _, _, hQ.cell 0, hQ.cell 1, hQ.cell 2, hQ.cell 3, q4.below hq0⟩
  | 1, _ => exact ⟨_, _, _, _, _, _, _, _, hQ.cell 4, hQ.cell 5, hQ.cell 6, hQ.cell 7, q5.below hq0⟩
  | 2, _ => exact ⟨_, _, _, _, _, _, _, _, hQ.cell 8, hQ.cell 9, hQ.cell 10, hQ.cell 11, q6.below hq0⟩

end Go.Proofs.YtodkhjihkkmplaaGreat

namespace Go.Proofs.YtodkhjihkkmplaaGreat
set_option linter.unusedVariables false
set_option linter.unusedSimpArgs false
open Go.RowKit
open Wd

theorem lv_digs {k : Nat} {q : Rat} (h : Lv k q) : (digs q.num.natAbs).length ≤ 7 * 3 ^ k ∧ (digs q.den).length ≤ 7 * 3 ^ k := ⟨digs_len_le.2 h.1, digs_len_le.2 h.2⟩
theorem lv_len {q : Rat} (h : Lv (0 + 6) q) : (digs q.num.natAbs).length ≤ 1000000 ∧ (denW q.den).length ≤ 1000000 := by
 have e : 7 * 3 ^ (0 + 6) = 5103 := by decide
 obtain ⟨h1, h2⟩ := lv_digs h
 rw [e] at h1 h2
 refine ⟨by omega, ?_⟩
 unfold denW
 split
 ·simp
 ·omega
set_option maxRecDepth 100000 in
set_option maxHeartbeats 2000000 in
theorem fills_yes (A B C R SA SB : Option Addr) (n c m d p pc rc sk sc sj se : Nat) (us : List Un) (bs : List Bool) (qs tk : List Rat) (rest : Rat) (need price : Int) (sn : Bool) (w : World) (h : UsAt w A n us) (h' : BsAt w B m bs) (hg : GsAt 0 w C p qs) (hn : n ≤ 5) (hm' : m ≤ 1000000000000) (hp : p ≤ 1000000000000)
  (hr : rchk us bs qs need = 0) (hfv : ∀ ord, Rv.Ord (spF us) n ord → fillV us bs qs need ord = ⟨tk, rest, price⟩) (hrow : QsAt w R n tk) (hsh : RQ w rest SA sk sc SB sj se) (hsn : sn = decide (rest.num < 0)) :
  Calls Tryz.prog 24 #[.slice A n c, .slice B m d, .slice C p pc, .int .i64 need, .int .i64 price, .agg #[.bool sn, .slice SA sk sc, .bool false, .slice SB sj se], .slice R n rc] w fun e w' => e = .returned (.bool true) ∧ Below w.heap.size w w' := by
 have T1 := Lib.hid (fun W (hW : Below w.heap.size w W) => fill_ok 0 (by omega) A B C n c m d p pc us bs qs need W (h.below hW) (h'.below hW) (hg.below hW) (by omega) hm' hp hr)
 have HFV := Lib.hid hfv
 have HROW := Lib.hid hrow
 have HSH := Lib.hid hsh
 have z1 : (price == price) = true := by simp
 subst hsn
 clear h h' hg hr hfv hrow hsh
 go_enter Tryz.func24, Tryz.ntmps24
 go_wp2_with fail
 generalize hsn : decide (rest.num < 0) = sn at *
 have HSN := Lib.hid hsn
 clear hsn
 obtain ⟨hB0, hBW, hsz⟩ := pre1 w 31 #[.bool sn, .slice SA sk sc, .bool false, .slice SB sj se]
 generalize w.alloc (.cells #[.bool sn, .slice SA sk sc, .bool false, .slice SB sj se] 31) = W at *
 have HSZ := Lib.hid hsz
 clear hsz
 refine (T1.out _ hBW).mono ?_
 rintro e w1 ⟨ord, g, A1, k1, c1, A2, k2, c2, hord, rfl, hR, hQ, hgl, hl1, hl2, hb1⟩
 rw [HFV.out ord hord] at hR hQ hl1 hl2
 rw [HFV.out ord hord]
 simp only at hR hQ hl1 hl2 ⊢
 rw [HSN.out]
 obtain rfl : k1 = sk := hQ.2.2.1.len.trans HSH.out.2.2.1.len.symm
 obtain rfl : k2 = sj := hQ.2.2.2.len.trans HSH.out.2.2.2.len.symm
 have hlen := lv_len hl2
 have hb1' := hBW.trans (hb1.mono hBW.size)
 have hx : Below w1.heap.size w1 (w1.alloc (.cells #[.bool sn, .slice A1 k1 c1, .bool false, .slice A2 k2 c2] 31)) := (Below.refl _ _).alloc (Nat.le_refl _) _
 have hN := Blk.new w1 31 #[.bool sn, .slice A1 k1 c1, .bool false, .slice A2 k2 c2]
 have hB0 := (hB0.below hb1 hB0.lt).below hx (hB0.below hb1 hB0.lt).lt
 have hbx := hb1'.trans (hx.mono hb1'.size)
 have T2 := Lib.hid (ris_yes rest A1 SA A2 SB k1 c1 k2 c2 sc se _ (hQ.below hx) (HSH.out.below hbx) (by rw [hQ.2.2.1.len]; exact hlen.1) (by rw [hQ.2.2.2.len]; exact hlen.2))
 rw [HSN.out] at T2
 have T3 := Lib.hid (fun (W : World) (hW : Kp (w1.alloc (.cells #[.bool sn, .slice A1 k1 c1, .bool false, .slice A2 k2 c2] 31)) W) => rrows_yes (some ⟨g, 0, none⟩) R n n rc tk W ((hR.at.below hx).below hW) (HROW.out.below (hbx.trans (Below.mono hW hbx.size))) (by omega) (fun p hp => by
  obtain ⟨j, hj, rfl⟩ := List.getElem_of_mem hp
  have := lv_len (hl1 j (by rw [← hR.1]; exact hj))
  unfold FillP.gtq at this
  rw [List.getElem?_eq_getElem hj] at this
  exact this))
 have HBX := Lib.hid hbx
 obtain ⟨p0, p1, p2, p3, -, -, -, -⟩ := hB0.four
 obtain ⟨p4, p5, p6, p7, -, -, -, -⟩ := hN.four
 clear hR hQ hgl hl1 hl2 hb1 hb1' hx hN hB0 hbx hlen T1 hBW hord
 go_wp2_with fail
 refine T2.out.mono ?_
 rintro e w2 ⟨rfl, hb2⟩
 have T4 := Lib.hid (T3.out w2 hb2)
 have HB2 := Lib.hid (HBX.out.trans (hb2.mono HBX.out.size))
 clear hb2 T2 T3 p0 p1 p2 p3 p4 p5 p6 p7
 go_wp2_with fail
 refine T4.out.mono ?_
 rintro e w3 ⟨rfl, hb3⟩
 have HF := Lib.hid (HB2.out.trans (hb3.mono HB2.out.size))
 clear hb3 T4
 go_wp2
 go_ret
 exact ⟨rfl, HF.out⟩

end Go.Proofs.YtodkhjihkkmplaaGreat
