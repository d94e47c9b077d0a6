/-
integer, shares and gain of package clear, at whole quantities. sort.Slice of integers in clearingPrice of package clear. No statement of the seat is proved here; no conditions beyond those of each theorem.
-/
import Derived.Test.YtjajigkacccdgaaGreatTbBO
import Derived.Test.YtjajigkacccdgaaGreatTbBE
import Derived.Shelf.GgSortFunc.Whole
namespace Go.Proofs.YtjajigkacccdgaaGreat
set_option linter.unusedVariables false
set_option linter.unusedSimpArgs false
open Go.RowKit
open Wd

set_option maxRecDepth 100000 in
set_option maxHeartbeats 4000000 in
theorem integer_whole (z : Int) (aA aA' : Option Addr) (ak ac ak' ac' : Nat) (w : World) (h : WQ w (z : Rat) aA ak ac aA' ak' ac') (hz : z.natAbs < 1000000000000000000) :
  Calls Tryz.prog 148 #[.agg #[.bool (decide (((z : Int) : Rat).num < 0)), .slice aA ak ac, .bool false, .slice aA' ak' ac']] w fun e w' => e = .returned (.int .i64 z) ∧ Below w.heap.size w w' := by
 have HFL := Lib.hid (fun W (hW : Below w.heap.size w W) => qfloor_whole 4611686018427387904 1152921504606846976 2 wok_small (by omega) _ false aA aA' ak ac ak' ac' z W ((h.below hW).at (by rw [Rat.num_intCast]; omega) (by rw [Rat.den_intCast]; omega)))
 have HI := Lib.hid (fun W A1 k1 c1 (h1 : Wat W A1 k1 (digs z.natAbs)) (h2 : k1 ≤ c1) => int64_yes (decide (z < 0)) A1 k1 c1 (digs z.natAbs) W h1 h2 (by
   have h3 := h1.1
   have h4 : (digs z.natAbs).length ≤ 2 := digs_len_le.2 (by rw [pow2]; omega)
   omega) (by rw [val_digs, sg_self]; unfold Fits; omega))
 rw [val_digs, sg_self] at HI
 generalize decide (((z : Int) : Rat).num < 0) = bn at *
 clear h
 go_enter Tryz.func148, Tryz.ntmps148
 go_wp2_with fail
 have hbx := Blk.new w 42 #[.bool bn, .slice aA ak ac, .bool false, .slice aA' ak' ac']
 have hb0 : Below w.heap.size w (w.alloc (.cells #[.bool bn, .slice aA ak ac, .bool false, .slice aA' ak' ac'] 42)) := (Below.refl _ _).alloc (Nat.le_refl _) _
 generalize w.alloc (.cells #[.bool bn, .slice aA ak ac, .bool false, .slice aA' ak' ac'] 42) = W0 at *
 obtain ⟨f0, f1, f2, f3, -, -, -, -⟩ := hbx.four
 have HB0 := Lib.hid hb0
 clear hbx hb0
 go_wp2_with fail
 refine (HFL.out W0 HB0.out).mono ?_
 rintro e w1 ⟨A1, k1, c1, rfl, hk1, hW1, -, hb1⟩
 have HB1 := Lib.hid (HB0.out.trans (hb1.mono HB0.out.size))
 have HI1 := Lib.hid (HI.out w1 A1 k1 c1 hW1 hk1)
 clear hk1 hW1 hb1 HFL HI f0 f1 f2 f3
 go_wp2_with fail
 refine HI1.out.mono ?_
 rintro e w2 ⟨rfl, hb2⟩
 have HB2 := Lib.hid (HB1.out.trans (hb2.mono HB1.out.size))
 clear hb2
 go_wp2
 go_ret
 exact ⟨rfl, HB2.out⟩

theorem qsubJ (x y : Int) (hx : x.natAbs < 1000000000000000000) (hy : y.natAbs < 1000000000000000000) {W : World} {B B' B2 B2' : Option Addr} {bk bc bk' bc' j d j' d' : Nat} (h1 : WQ W (x : Rat) B bk bc B' bk' bc') (h2 : WQ W (y : Rat) B2 j d B2' j' d') :
  Calls Tryz.prog 55 #[.agg #[.bool (decide (((x : Int) : Rat).num < 0)), .slice B bk bc, .bool false, .slice B' bk' bc'], .agg #[.bool (decide (((y : Int) : Rat).num < 0)), .slice B2 j d, .bool false, .slice B2' j' d']] W (RetQ W ((x - y : Int) : Rat)) := by
 have := qsub_any 4611686018427387904 1152921504606846976 2 wok_small (by omega) (by omega) _ false _ false B B' B2 B2' bk bc bk' bc' j d j' d' (x : Rat) (y : Rat) W (h1.at (by rw [Rat.num_intCast]; omega) (by rw [Rat.den_intCast]; omega)) (h2.at (by rw [Rat.num_intCast]; omega) (by rw [Rat.den_intCast]; omega))
 rwa [← Rat.intCast_sub] at this

/-- While the amounts are written. -/
def AmR (w : World) (n k : Nat) (xs : List Int) (B : Option Addr) (g : Nat) (wr : World) : Prop :=
 Below w.heap.size w wr ∧ (n ≠ 0 → ∃ g1, B = some ⟨g1, 0, none⟩ ∧ QRow wr g1 n (castR xs)) ∧ ∃ ys, IRow wr g ys ∧ ys.length = n ∧ ∀ j, j < k → ys[j]?.getD 0 = xs[j]?.getD 0

theorem QRow.aside {w : World} {g n : Nat} {ps : List Rat} (h : QRow w g n ps) {p : Addr} {xs : List Int} (hr : IRow w p.block xs) (v : Int) (hs : p.spot = none) : QRow (w.setCell p (.int .i64 v)) g n ps := by
 obtain ⟨h1, cs, h2, h3, h4, h5⟩ := h
 have hne : g ≠ p.block := by
  intro e
  rw [e] at h2
  unfold IRow Blk at *
  rw [h2] at hr
  simp at hr
 refine ⟨h1, cs, h2.far hne _, h3, h4, fun j hj => ?_⟩
 obtain ⟨A, k, c, A', k', c', e1, e2, e3, e4, e5, e6, e7, e8⟩ := h5 j hj
 have key : ∀ {A : Option Addr} {k : Nat} {l : List Nat}, Wat w A k l → Wat (w.setCell p (.int .i64 v)) A k l := by
  intro A k l hw
  refine ⟨hw.1, hw.2.1, fun hn => ?_⟩
  obtain ⟨b, o, rfl, hb, hc⟩ := hw.2.2 hn
  refine ⟨b, o, rfl, by simpa [World.setCell] using hb, fun j hj => ?_⟩
  have hbn : b ≠ p.block := by
   intro e
   have h9 := hc j hj
   rw [e] at h9
   have h8 := Blk.cell hr (o + j)
   rw [h8] at h9
   simp at h9
  rw [World.cell?_setCell_other _ _ _ _ (fun e => hbn (by have := congrArg Addr.block e; first | exact this | exact this.symm))]
  exact hc j hj
 exact ⟨A, k, c, A', k', c', e1, e2, e3, e4, e5, e6, key e7, key e8⟩

set_option maxRecDepth 100000 in
set_option maxHeartbeats 8000000 in
theorem cshares_ok (up : Bool) (A : Option Addr) (m n c : Nat) (lv : List St.Lv) (z : Int) (w : World) (h : LvAt w A m n lv) (hv : VL up n lv) (h0 : 0 ≤ z) (h1 : z ≤ totI lv) (hmn : n ≠ 0 → m ≠ 0) :
  Calls Tryz.prog 106 #[.slice A m c, .int .i64 z] w fun e w' => ∃ g, e = .returned (.tuple #[.slice (some ⟨g, 0, none⟩) n n, .int .i64 0]) ∧ IRow w' g (shAll lv n z m) ∧ w.heap.size ≤ g ∧ Below w.heap.size w w' := by
 have hz := (tot_bd lv hv.qty).2
 have hl := hv.len
 have hn16 := hv.n16
 have hlm := h.1
 have HSA := Lib.hid (fun W A5 A6 k5 c5 k6 c6 (hW : Below w.heap.size w W) (hq : WQ W ((z : Int) : Rat) A5 k5 c5 A6 k6 c6) => share_all up A m n c lv z A5 A6 k5 c5 k6 c6 W (h.below hW) hv hq h0 h1 hmn)
 have hxl := shAll_len lv n z m
 have hpi : ∀ i, i < lv.length → 0 ≤ partI (lvQ lv) z i := fun i hi => by
  have := partI_bd hv.okQ h0 i (by rw [lvQ_len]; omega)
  have h2 := hv.okQ _ (getD_mem (d := (0, 0)) (show i < (lvQ lv).length by rw [lvQ_len]; omega))
  unfold partI; omega
 have hbd := shAll_bd hv hpi m (by omega)
 have hm48 : m ≤ 48 := by omega
 have hzb : z ≤ 1000000000 := by omega
 generalize shAll lv n z m = xs at *
 have HXB := Lib.hid hbd
 have HXL := Lib.hid hxl
 clear h hv hmn hz hl hlm hxl hpi hbd h1
 go_enter Tryz.func106, Tryz.ntmps106
 go_wp2_with fail
 refine (qfromInt64_any z w (by omega) (by omega)).mono ?_
 rintro e x1 ⟨A5, k5, c5, A6, k6, c6, rfl, hk5, hk6, hW5, hW6, -, -, hb1⟩
 have HX1 := Lib.hid hb1
 have HC := Lib.hid (HSA.out x1 A5 A6 k5 c5 k6 c6 hb1 ⟨hk5, hk6, hW5, hW6⟩)
 clear hk5 hk6 hW5 hW6 hb1 HSA
 generalize ((z : Int) : Rat) = zq at *
 go_wp2_with fail
 refine HC.out.mono ?_
 rintro e x2 ⟨B, d, rfl, hr, hb2⟩
 have HX2 := Lib.hid (HX1.out.trans (hb2.mono HX1.out.size))
 have HR := Lib.hid hr
 have hmk := fun w => run_make_ints n (by omega) w
 clear hr hb2 HC HX1
 go_wp2_with fail
 have hst : AmR w n 0 xs B x2.heap.size (x2.alloc (.cells (Array.replicate n (.int .i64 0)) 2)) := by
  have kx := (Kp.refl x2).alloc (.cells (Array.replicate n (.int .i64 0)) 2)
  refine ⟨HX2.out.trans (Below.mono kx HX2.out.size), fun hn => ?_, List.replicate n 0, IRow.start x2 n, by simp, fun j hj => by omega⟩
  obtain ⟨g1, e, hq⟩ := HR.out hn
  exact ⟨g1, e, hq.below kx⟩
 have hgs : w.heap.size ≤ x2.heap.size := HX2.out.size
 have HST := Lib.hid hst
 clear hst hmk HX2 HR
 generalize x2.alloc (.cells (Array.replicate n (.int .i64 0)) 2) = W1 at *
 generalize x2.heap.size = g at *
 go_loopw [26] (fun t wr => ∃ k : Nat, k ≤ n ∧ t = .int .i64 k ∧ Hid (AmR w n k xs B g wr)) (fun t _ => n - (intOf t).toNat)
 case atStart => exact ⟨0, Nat.zero_le _, rfl, HST.out⟩
 case round =>
  clear HST
  obtain ⟨k, hk, rfl, hR⟩ := hrel
  by_cases hlt : k < n
  ·obtain ⟨hBW, hq, ys, hI, hyl, hy⟩ := hR.out
   obtain ⟨g1, rfl, hqr⟩ := hq (by omega)
   obtain ⟨D1, e1, f1, D2, e2, f2, p0, p1, p2, p3, -, -, -, -, m1', m2', w1', w2'⟩ := hqr.cells hlt
   rw [castR_get] at p0 w1' w2'
   have hxb := HXB.out k
   generalize hxe : xs[k]?.getD 0 = x at *
   have HXE := Lib.hid hxe
   have wqx : WQ wr ((x : Int) : Rat) D1 e1 f1 D2 e2 f2 := ⟨m1', m2', w1', w2'⟩
   have hIN := fun W (hW : Below wr.heap.size wr W) => integer_whole x D1 D2 e1 f1 e2 f2 W (wqx.below hW) (by omega)
   have k1 : (0 : Int) ≤ (k : Int) := by omega
   have k2 : (k : Int) < (n : Int) := by omega
   generalize decide (((x : Int) : Rat).num < 0) = bn at *
   have HIN := Lib.hid hIN
   have HR := Lib.hid (And.intro hBW (And.intro hqr (And.intro hI (And.intro hyl hy))))
   clear hq hI hyl hy hqr m1' m2' w1' w2' hxb hxe wqx hIN hR hBW
   go_wp2_with fail
   have hbx := Blk.new wr 42 #[.bool bn, .slice D1 e1 f1, .bool false, .slice D2 e2 f2]
   have hb0 : Below wr.heap.size wr (wr.alloc (.cells #[.bool bn, .slice D1 e1 f1, .bool false, .slice D2 e2 f2] 42)) := (Below.refl _ _).alloc (Nat.le_refl _) _
   generalize wr.alloc (.cells #[.bool bn, .slice D1 e1 f1, .bool false, .slice D2 e2 f2] 42) = W2 at *
   obtain ⟨f0, f1', f2', f3, -, -, -, -⟩ := hbx.four
   have HB0 := Lib.hid hb0
   clear hbx hb0 p0 p1 p2 p3
   go_wp2_with fail
   refine (HIN.out W2 HB0.out).mono ?_
   rintro e v1 ⟨rfl, hb1⟩
   have hB1 := HB0.out.trans (hb1.mono HB0.out.size)
   have hI1 := HR.out.2.2.1.below hB1
   have hc1 := hI1.cell (i := k) (by rw [HR.out.2.2.2.1]; exact hlt)
   have hf1 := hI1.frozen k
   have hfin : AmR w n (k + 1) xs (some ⟨g1, 0, none⟩) g (v1.setCell ⟨g, k, none⟩ (.int .i64 x)) := by
    have hb9 := HR.out.1.trans (hB1.mono HR.out.1.size)
    refine ⟨hb9.setCell (p := ⟨g, k, none⟩) hgs _, fun _ => ⟨g1, rfl, (HR.out.2.1.below hB1).aside (p := ⟨g, k, none⟩) hI1 x rfl⟩, ys.set k x, hI1.set k x, by rw [List.length_set]; exact HR.out.2.2.2.1, fun j hj => ?_⟩
    rw [List.getElem?_set]
    by_cases hjk : k = j
    ·subst hjk
     rw [if_pos rfl, if_pos (by rw [HR.out.2.2.2.1]; exact hlt)]
     exact HXE.out.symm
    ·rw [if_neg hjk]
     exact HR.out.2.2.2.2 j (by omega)
   have HF := Lib.hid hfin
   clear hb1 hB1 hI1 hfin HIN HB0 HR f0 f1' f2' f3
   go_wp2
   go_roundw
   case rel => exact ⟨k + 1, by omega, by go_num, HF.out⟩
   case measure => simp [intOf]; omega
  ·obtain rfl : k = n := by omega
   obtain ⟨hBW, -, ys, hI, hyl, hy⟩ := hR.out
   obtain rfl : ys = xs := St.ext_getD (by rw [hyl, HXL.out]) (fun i hi => hy i (by omega))
   have HF := Lib.hid (And.intro hI hBW)
   clear hR hI hBW hy
   go_wp2
   go_ret2
   exact ⟨g, rfl, HF.out.1, hgs, HF.out.2⟩

theorem CQ.wq {base : Nat} {w : World} {q : Rat} {A A' : Option Addr} {k c k' c' : Nat} (h : CQ base w q A k c A' k' c') : WQ w q A k c A' k' c' := ⟨h.1, h.2.1, h.2.2.1, h.2.2.2.1⟩

set_option maxRecDepth 100000 in
set_option maxHeartbeats 8000000 in
theorem gain_ok (up up' : Bool) (A B : Option Addr) (m n c m' n' c' : Nat) (S D : List St.Lv) (z : Int) (w : World) (h : LvAt w A m n S) (hv : VL up n S) (h' : LvAt w B m' n' D) (hv' : VL up' n' D) (h0 : 0 ≤ z) (h1 : z ≤ totI S) (h1' : z ≤ totI D) :
  Calls Tryz.prog 107 #[.slice A m c, .slice B m' c', .int .i64 z] w fun e w' => e = .returned (.tuple #[.int .i64 (costI (lvQ D) z m' - costI (lvQ S) z m), .int .i64 0]) ∧ Below w.heap.size w w' := by
 have hz := (tot_bd S hv.qty).2
 have hl := hv.len
 have hl' := hv'.len
 have hlm := h.1
 have hlm' := h'.1
 have HC1 := Lib.hid (fun W A5 A6 k5 c5 k6 c6 (hW : Below w.heap.size w W) (hq : WQ W ((z : Int) : Rat) A5 k5 c5 A6 k6 c6) => kcost_whole up A m n c S z A5 A6 k5 c5 k6 c6 W (h.below hW) hv hq h0 h1)
 have HC2 := Lib.hid (fun W A5 A6 k5 c5 k6 c6 (hW : Below w.heap.size w W) (hq : WQ W ((z : Int) : Rat) A5 k5 c5 A6 k6 c6) => kcost_whole up' B m' n' c' D z A5 A6 k5 c5 k6 c6 W (h'.below hW) hv' hq h0 h1')
 have b1 := costI_bd2 hv.okQ hv.prI h0 m (by rw [lvQ_len]; omega)
 have b2 := costI_bd2 hv'.okQ hv'.prI h0 m' (by rw [lvQ_len]; omega)
 have hb1 : (costI (lvQ S) z m).natAbs < 100000000000000000 := by omega
 have hb2 : (costI (lvQ D) z m').natAbs < 100000000000000000 := by omega
 have hzb : z ≤ 1000000000 := by omega
 generalize costI (lvQ S) z m = x at *
 generalize costI (lvQ D) z m' = y at *
 have HSB := Lib.hid (fun W (B1 B1' B2 B2' : Option Addr) (bk bc bk' bc' j d j' d' : Nat) (g1 : WQ W ((y : Int) : Rat) B1 bk bc B1' bk' bc') (g2 : WQ W ((x : Int) : Rat) B2 j d B2' j' d') => qsubJ y x (by omega) (by omega) g1 g2)
 have HIN := Lib.hid (fun W (B1 B1' : Option Addr) (bk bc bk' bc' : Nat) (g1 : WQ W ((y - x : Int) : Rat) B1 bk bc B1' bk' bc') => integer_whole (y - x) B1 B1' bk bc bk' bc' W g1 (by omega))
 have HFI := Lib.hid (fun W => qfromInt64_any z W (by omega) (by omega))
 clear h hv h' hv' hz hl hl' hlm hlm' b1 b2 hb1 hb2 h1 h1'
 generalize ((z : Int) : Rat) = zq at *
 generalize ((x : Int) : Rat) = xq at *
 generalize ((y : Int) : Rat) = yq at *
 generalize ((y - x : Int) : Rat) = dq at *
 go_enter Tryz.func107, Tryz.ntmps107
 go_wp2_with fail
 refine (HFI.out w).mono ?_
 rintro e x1 ⟨A5, k5, c5, A6, k6, c6, rfl, hk5, hk6, hW5, hW6, -, -, hb1⟩
 have HX1 := Lib.hid hb1
 have HC := Lib.hid (HC1.out x1 A5 A6 k5 c5 k6 c6 hb1 ⟨hk5, hk6, hW5, hW6⟩)
 clear hk5 hk6 hW5 hW6 hb1 HC1
 go_wp2_with fail
 refine HC.out.mono ?_
 rintro e x2 ⟨A7, k7, c7, A8, k8, c8, rfl, hcq, hb2⟩
 have HX2 := Lib.hid (HX1.out.trans (hb2.mono HX1.out.size))
 have HQX := Lib.hid hcq.wq
 clear hcq hb2 HC HX1
 go_wp2_with fail
 have hbx := Blk.new x2 42 #[.bool (decide (xq.num < 0)), .slice A7 k7 c7, .bool false, .slice A8 k8 c8]
 have kx := (Kp.refl x2).alloc (.cells #[.bool (decide (xq.num < 0)), .slice A7 k7 c7, .bool false, .slice A8 k8 c8] 42)
 generalize x2.alloc (.cells #[.bool (decide (xq.num < 0)), .slice A7 k7 c7, .bool false, .slice A8 k8 c8] 42) = W2 at *
 have HX2b := Lib.hid (HX2.out.trans (Below.mono kx HX2.out.size))
 have HQX := Lib.hid (HQX.out.below kx)
 have HBX := Lib.hid hbx
 clear hbx kx HX2
 refine (HFI.out W2).mono ?_
 rintro e x3 ⟨A5', k5', c5', A6', k6', c6', rfl, hk5, hk6, hW5, hW6, -, -, hb3⟩
 have HX3 := Lib.hid (HX2b.out.trans (hb3.mono HX2b.out.size))
 have HC := Lib.hid (HC2.out x3 A5' A6' k5' c5' k6' c6' HX3.out ⟨hk5, hk6, hW5, hW6⟩)
 have HQX := Lib.hid (HQX.out.below hb3)
 have HBX := Lib.hid (HBX.out.below hb3 HBX.out.lt)
 clear hk5 hk6 hW5 hW6 hb3 HC2 HX2b
 go_wp2_with fail
 refine HC.out.mono ?_
 rintro e x4 ⟨A9, k9, c9, A10, k10, c10, rfl, hcq, hb4⟩
 have HX4 := Lib.hid (HX3.out.trans (hb4.mono HX3.out.size))
 have HQX := Lib.hid (HQX.out.below hb4)
 have HBX := Lib.hid (HBX.out.below hb4 HBX.out.lt)
 have HQY := Lib.hid hcq.wq
 clear hcq hb4 HC HX3
 have kx := (Kp.refl x4).alloc (.cells #[.bool (decide (yq.num < 0)), .slice A9 k9 c9, .bool false, .slice A10 k10 c10] 42)
 have HX4b := Lib.hid (HX4.out.trans (Below.mono kx HX4.out.size))
 have HQX := Lib.hid (HQX.out.below kx)
 have HQY := Lib.hid (HQY.out.below kx)
 have hbx := kx.blk HBX.out
 obtain ⟨f0, f1, f2, f3, -, -, -, -⟩ := hbx.four
 clear hbx kx HX4 HBX
 go_wp2_with fail
 refine (HSB.out _ _ _ _ _ _ _ _ _ _ _ _ _ HQY.out HQX.out).mono ?_
 rintro e x5 ⟨A11, k11, c11, A12, k12, c12, rfl, hk5, hk6, hW5, hW6, -, -, hb5⟩
 have HX5 := Lib.hid (HX4b.out.trans (hb5.mono HX4b.out.size))
 have HI := Lib.hid (HIN.out x5 A11 A12 k11 c11 k12 c12 ⟨hk5, hk6, hW5, hW6⟩)
 clear hk5 hk6 hW5 hW6 hb5 HX4b HIN HSB f0 f1 f2 f3
 go_wp2_with fail
 refine HI.out.mono ?_
 rintro e x6 ⟨rfl, hb6⟩
 have HX6 := Lib.hid (HX5.out.trans (hb6.mono HX5.out.size))
 clear hb6
 go_wp2
 go_ret2
 exact ⟨rfl, HX6.out⟩

end Go.Proofs.YtjajigkacccdgaaGreat

namespace Go.Proofs.YtjajigkacccdgaaGreat
set_option linter.unusedVariables false
set_option linter.unusedSimpArgs false
open Go.Shelf Go.RowKit Go.Lib Go.Sort
open Wd
def encI (x : Int) : Value := .int .i64 x
noncomputable def iT : TypeInfo := (Tryz.prog.info? 62).get (by kernel_rfl)
noncomputable def iE : TypeInfo := (Tryz.prog.info? 2).get (by kernel_rfl)
theorem iK (n : Nat) (h2 : 2 ≤ n) : Lib.swapperK n iE 6 = 5 := by
 have a : iE.hasPointers = false := by kernel_rfl
 have b : iE.bytes = 8 := by kernel_rfl
 have c : (n == 0) = false := by simp; omega
 have d : (n == 1) = false := by simp; omega
 simp [Lib.swapperK, a, b, c, d]
def ltI (a b : Int) : Bool := decide (a < b)
theorem swo_ltI : SWO ltI where
 irrefl := by intro a; simp [ltI]
 trans := by intro a b c h1 h2; simp [ltI] at *; omega
 ntrans := by intro a b c h1 h2; simp [ltI] at *; omega
theorem grow_i (w : World) (n blk : Nat) (d : Array Int) (os : Array Obj) : w.grownBy (grow (putRow encI (Sort.ahead w n) blk 0 d) os) (some blk) := by
 refine ⟨rfl, rfl, rfl, ?_, fun k hk hne => ?_⟩
 ·simp [grow, putRow, mapBlock]
 ·have hkb : blk ≠ k := fun e => hne (by rw [e])
  have e : (putRow encI (Sort.ahead w n) blk 0 d).heap[k]? = w.heap[k]? := by simp only [putRow, mapBlock, Array.getElem?_modify, if_neg hkb]; rfl
  rw [← e]
  simp only [grow]
  rw [Array.getElem?_append_left]
  simpa [putRow, mapBlock] using hk
set_option maxHeartbeats 2000000 in
theorem less_ints (blk c Bs size : Nat) (W : World) (G : Nat → Int) (hs : W.cell? ⟨Bs, 0, none⟩ = some (.slice (some ⟨blk, 0, none⟩) size c))
  (hc : ∀ t, t < size → W.cell? ⟨blk, t, none⟩ = some (.int .i64 (G t))) (i j : Nat) (hi : i < size) (hj : j < size) (_hsz : size < 4611686018427387904) :
  Calls Tryz.prog 149 #[.int .i64 i, .int .i64 j, .pointer (some ⟨Bs, 0, none⟩)] W fun e w' => e = .returned (.bool (decide (G i < G j))) ∧ ∃ q, w' = W.drewN q := by
 have ci := hc i hi
 have cj := hc j hj
 clear hc
 go_enter Tryz.func149, Tryz.ntmps149
 go_wp2
 go_quiet (fail)
 rename Nat => n1
 go_wp2
 go_ret
 exact ⟨rfl, n1, rfl⟩
theorem sort_ints (blk c Bs : Nat) (ps : List Int) (w : World) (hH : Holds encI w blk 0 ps.toArray) (hblk : blk < w.heap.size) (hBs : w.cell? ⟨Bs, 0, none⟩ = some (.slice (some ⟨blk, 0, none⟩) ps.length c)) (hB1 : Bs < w.heap.size) (hB2 : Bs ≠ blk) (hsz : ps.length < 4611686018427387904) :
  Calls Tryz.prog 71 #[.iface 62 (.slice (some ⟨blk, 0, none⟩) ps.length c), .func (.func 149) #[] #[.pointer (some ⟨Bs, 0, none⟩)]] w fun e w' =>
   e = .returned (.tuple #[]) ∧ ∃ ps' : List Int, ps'.Perm ps ∧ ps'.Pairwise (fun a b => ltI b a = false) ∧ Holds encI w' blk 0 ps'.toArray ∧ w.grownBy w' (some blk) := by
 by_cases h2 : 2 ≤ ps.length
 ·have hless : LessReads Tryz.prog 149 #[.pointer (some ⟨Bs, 0, none⟩)] encI ltI blk 0 ps.toArray.size w := by
   intro m os dk hs i j hi hj
   have e : sortWorld encI w blk 0 m dk os = putRow encI (grow (Sort.ahead w m) os) blk 0 dk := by
    unfold sortWorld; rw [putRow_grow _ (Sort.ahead w m) _ blk 0 _ hblk]
   have hHg : Holds encI (grow (Sort.ahead w m) os) blk 0 ps.toArray := holds_grow _ _ _ blk 0 _ hblk (holds_ahead _ _ _ _ _ _ hH)
   have hHd := holds_putRow _ _ blk 0 ps.toArray dk hHg hs
   refine less_ints blk c Bs ps.toArray.size _ (fun t => dk[t]!) ?_ (fun t ht => ?_) i j hi hj (by simpa using hsz)
   ·rw [e, cell?_putRow_other _ _ blk 0 dk _ (Or.inl (by exact hB2)), cell?_grow _ _ _ (by exact hB1)]; simpa using hBs
   ·rw [e]; have := (hHd t (by omega)).1; rw [Nat.zero_add] at this; exact this
  have hS := Any.sort_Slice_sorted Tryz.laysGg6 62 2 iT iE (by kernel_rfl) (by kernel_rfl) (by kernel_rfl) (by kernel_rfl) 6 (fun _ => by kernel_rfl) (by kernel_rfl) (fun _ => by kernel_rfl) encI (fun _ => rfl) ltI swo_ltI 149 _
   (enters_of Tryz.func149 (by kernel_rfl) rfl) blk 0 c ps.toArray (by simpa using h2) (by simpa using hsz) 162 (by rw [iK _ (by simpa using h2)]; kernel_rfl) true
   (fun args W => run_callFunc_extern Tryz.func162 (by kernel_rfl) (by kernel_rfl) (by kernel_rfl) (e := Extern.ReflectliteSwapper.swap true) (by kernel_rfl) args W) w hless hH hblk
  have hz : ps.toArray.size = ps.length := by simp
  rw [hz] at hS
  change Calls Tryz.prog 71 _ _ _ at hS
  refine hS.mono ?_
  rintro e w' ⟨rfl, d', n', os, hp, hso, rfl⟩
  obtain ⟨p1, _, p3⟩ := hp
  have hd : d'.size = ps.length := by simpa using p1
  refine ⟨rfl, d'.toList, ?_, ?_, ?_, grow_i w n' blk d' os⟩
  ·have e1 : d'.extract 0 ps.length = d' := by rw [← hd]; simp
   have e2 : ps.toArray.extract 0 ps.length = ps.toArray := by rw [← hz]; simp
   rw [e1, e2] at p3
   simpa using p3
  ·rw [List.pairwise_iff_getElem]
   intro i j hi hj hij
   have := hso i j (Nat.zero_le _) hij (by simpa [hd] using hj)
   have hi' : i < d'.size := by simpa using hi
   have hj' : j < d'.size := by simpa using hj
   simpa [hi', hj'] using this
  ·have := holds_putRow encI (Sort.ahead w n') blk 0 ps.toArray d' (holds_ahead _ _ _ _ _ _ hH) (by simpa using p1)
   simpa using holds_grow encI _ os blk 0 _ (by simpa [putRow, mapBlock] using hblk) this
 ·have ht : ∀ f, Tryz.prog.funcs.findIdx? (·.name == "internal/reflectlite" ++ ".Swapper$" ++ toString (Lib.swapperK ps.length iE 6)) = some f → _ := fun f hf =>
   Any.sort_Slice_tiny Tryz.laysGg6 62 2 iT iE (by kernel_rfl) (by kernel_rfl) (by kernel_rfl) (by kernel_rfl) 6 (fun _ => by kernel_rfl) (some ⟨blk, 0, none⟩) ps.length c (by omega) f hf (.func 149) #[] #[.pointer (some ⟨Bs, 0, none⟩)] w
  have hfin : Calls Tryz.prog 71 #[.iface 62 (.slice (some ⟨blk, 0, none⟩) ps.length c), .func (.func 149) #[] #[.pointer (some ⟨Bs, 0, none⟩)]] w fun e w' => e = .returned (.tuple #[]) ∧ ∃ os, w' = grow w os := by
   rcases Nat.lt_or_ge ps.length 1 with h0 | h1
   ·have e0 : ps.length = 0 := by omega
    exact ht 158 (by rw [e0]; kernel_rfl)
   ·have e1 : ps.length = 1 := by omega
    exact ht 159 (by rw [e1]; kernel_rfl)
  refine hfin.mono ?_
  rintro e w' ⟨rfl, os, rfl⟩
  refine ⟨rfl, ps, List.Perm.refl _, ?_, holds_grow encI w os blk 0 _ hblk hH, ⟨rfl, rfl, rfl, by simp [grow], fun k hk _ => by simp only [grow]; rw [Array.getElem?_append_left hk]⟩⟩
  match ps, h2 with
  | [], _ => exact List.Pairwise.nil
  | [x], _ => exact List.pairwise_singleton _ _
  | _ :: _ :: _, h => exact absurd (by simp) h

end Go.Proofs.YtjajigkacccdgaaGreat
