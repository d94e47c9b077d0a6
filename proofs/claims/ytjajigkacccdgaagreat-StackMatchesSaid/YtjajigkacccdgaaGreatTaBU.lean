/-
The statements of layer 24: level, shares. The statements of layer 24: curve. No statement of the seat is proved here; no conditions beyond those of each theorem.
-/
import Derived.Test.YtjajigkacccdgaaGreatTaBR
import Derived.Test.YtjajigkacccdgaaGreatTaBT
import Derived.Test.YtjajigkacccdgaaGreatTaAV
import Derived.Test.YtjajigkacccdgaaGreatTaAF
namespace Go.Proofs.YtjajigkacccdgaaGreat
set_option linter.unusedVariables false
set_option linter.unusedSimpArgs false
open Go.RowKit
open Wd

set_option maxRecDepth 100000 in
set_option maxHeartbeats 1000000 in
theorem level_any (p q : Int) (A : Option Addr) (n c : Nat) (w : World) :
  Calls Tryz.prog 35 #[.int .i64 p, .int .i64 q, .slice A n c] w fun e w' => e = .returned (.agg #[.int .i64 p, .int .i64 q, .slice A n c]) ∧ Below w.heap.size w w' := by
 go_enter Tryz.func35, Tryz.ntmps35
 have hB := Blk.new w 64 #[.int .i64 p, .int .i64 q, .slice A n c]
 have c0 := hB.cell 0
 have c1 := hB.cell 1
 have c2 := hB.cell 2
 simp at c0 c1 c2
 go_wp2
 refine bodyPost_ret (v := .agg #[.int .i64 p, .int .i64 q, .slice A n c]) ?_ rfl ⟨rfl, (Below.refl _ _).alloc (Nat.le_refl _) _⟩
 simp [results, Tryz.results35, go_sem, c0, c1, c2]

set_option maxRecDepth 100000 in
set_option maxHeartbeats 1000000 in
theorem shares_yes (up : Bool) (A R : Option Addr) (m n c rc : Nat) (lv : List St.Lv) (z cost : Int) (w : World) (h : LvAt w A m n lv) (hv : VL up n lv) (h0 : 0 ≤ z) (h1 : z ≤ totI lv) (hm0 : m ≠ 0) (hr : IsAt w R n (shAll lv n z m)) (hc : cost = costI (lvQ lv) z m) (hcb : Fits cost) (hyb : ∀ y ∈ shAll lv n z m, Fits y) :
  Calls Tryz.prog 64 #[.slice A m c, .int .i64 z, .int .i64 cost, .slice R n rc] w fun e w' => e = .returned (.bool true) ∧ Below w.heap.size w w' := by
 have hzb := (tot_bd lv hv.qty).2
 have hl48 := hv.len
 have hll := h.1
 have T1 := Lib.hid (fun (x : Int) (hx1 : -9223372036854775808 ≤ x) (hx2 : x ≤ 9223372036854775807) W => rint_any x W hx1 hx2)
 have T2 := Lib.hid (fun W (hW : Below w.heap.size w W) aA aA' ak ac ak' ac' hq => share_ok up A m n c lv z aA aA' ak ac ak' ac' W (h.below hW) hv hq h0 h1 hm0)
 have T3 := Lib.hid (fun W (hW : Below w.heap.size w W) aA aA' ak ac ak' ac' hq => kcost_whole up A m n c lv z aA aA' ak ac ak' ac' W (h.below hW) hv hq h0 h1)
 have HX := Lib.hid hr
 have hz1 : -9223372036854775808 ≤ z := by omega
 have hz2 : z ≤ 9223372036854775807 := by omega
 have HZ := Lib.hid (And.intro hz1 hz2)
 have HCO := Lib.hid hc
 have HFC := Lib.hid (And.intro hcb hyb)
 have hn16 := hv.n16
 clear hzb hl48 hll h hv h0 h1 hr hz1 hz2 hc hcb hyb
 go_enter Tryz.func64, Tryz.ntmps64
 go_wp2_with fail
 refine (T1.out z HZ.out.1 HZ.out.2 w).mono ?_
 rintro e w1 ⟨A1, k1, c1, A2, k2, c2, rfl, hk1, hk2, hW1, hW2, -, -, hb1⟩
 go_wp2_with fail
 refine (T2.out w1 hb1 A1 A2 k1 c1 k2 c2 ⟨hk1, hk2, hW1, hW2⟩).mono ?_
 rintro e w2 ⟨g, rfl, hQ2, hg, hb2⟩
 have hB2 : Below w.heap.size w w2 := hb1.trans (hb2.mono hb1.size)
 have HQ2 := Lib.hid hQ2
 clear hb1 hb2 hW1 hW2 hk1 hk2 hQ2
 go_wp2_with fail
 refine (T1.out z HZ.out.1 HZ.out.2 w2).mono ?_
 rintro e w3 ⟨A1, k1, c1, A2, k2, c2, rfl, hk1, hk2, hW1, hW2, -, -, hb3⟩
 have hB3 := hB2.trans (hb3.mono hB2.size)
 have HQ3 := Lib.hid (HQ2.out.at.below hb3)
 clear HQ2 hB2 hb3
 go_wp2_with fail
 refine (T3.out w3 hB3 A1 A2 k1 c1 k2 c2 ⟨hk1, hk2, hW1, hW2⟩).mono ?_
 rintro e w4 ⟨A5, k5, c5, A6, k6, c6, rfl, hC, hb4⟩
 have hB4 := hB3.trans (hb4.mono hB3.size)
 have HQ4 := Lib.hid (HQ3.out.below hb4)
 clear HQ3 hB3 hb4 hW1 hW2 hk1 hk2
 obtain ⟨hC1, hC2, hC3, hC4, -, -⟩ := hC
 generalize hcq : ((costI (lvQ lv) z m : Int) : Rat) = cq at *
 have HC := Lib.hid (show WQ w4 cq A5 k5 c5 A6 k6 c6 from ⟨hC1, hC2, hC3, hC4⟩)
 have HCQ := Lib.hid (show ((cost : Int) : Rat) = cq by rw [HCO.out]; exact hcq)
 clear hC1 hC2 hC3 hC4 hcq HCO T2 T3
 go_wp2_with fail
 have hBx := Blk.new w4 42 #[.bool (decide (cq.num < 0)), .slice A5 k5 c5, .bool false, .slice A6 k6 c6]
 have k4 := (Kp.refl w4).alloc (.cells #[.bool (decide (cq.num < 0)), .slice A5 k5 c5, .bool false, .slice A6 k6 c6] 42)
 have HQ5 := Lib.hid (HQ4.out.below k4)
 have HC5 := Lib.hid (HC.out.below k4)
 have hB5 := hB4.trans (Below.mono k4 hB4.size)
 generalize hbx : w4.heap.size = bx at *
 generalize w4.alloc (.cells #[.bool (decide (cq.num < 0)), .slice A5 k5 c5, .bool false, .slice A6 k6 c6] 42) = W at *
 clear k4 HQ4 HC hB4 hbx
 have HBX := Lib.hid hBx
 have HB5 := Lib.hid hB5
 obtain ⟨ii, hii, hz0, hz1, hz2⟩ := info_parts info_q
 have HI := Lib.hid hii
 have HZ0 := Lib.hid hz0
 have HZ1 := Lib.hid hz1
 have HZ2 := Lib.hid hz2
 clear hBx hB5 hii hz0 hz1 hz2
 generalize hys : shAll lv n z m = ys at *
 go_loopw [13, 14] (fun th t wr => ∃ (i : Nat) (Ah : Option Addr) (ch : Nat) (es : List QEnt), i ≤ n ∧ t = .int .i64 (i : Int) ∧ th = .slice Ah i ch ∧ Hid (Kp W wr ∧ Own W.heap.size 42 4 wr Ah i ch (qCells es) ∧ QEnts Ah (castR ys) wr i es)) (fun _ t _ => n - (intOf t).toNat)
 case atStart => exact ⟨0, none, 0, [], Nat.zero_le _, rfl, rfl, Kp.refl _, Own.nil _ _ _ _, QEnts.start⟩
 case round =>
  obtain ⟨i, Ah, ch, es, hi, rfl, rfl, hR⟩ := hrel
  by_cases hlt : i < n
  ·obtain ⟨hB, hO, hE⟩ := hR.out
   obtain ⟨gr, or, rfl, hb, hcl⟩ := HX.out.2 (by omega)
   have hl : ys.length = n := HX.out.1
   have hcell := (hB.cell (p := ⟨gr, or + i, none⟩) (Nat.lt_of_lt_of_le hb HB5.out.size)).trans ((HB5.out.cell (p := ⟨gr, or + i, none⟩) hb).trans (hcl i hlt))
   have hfy := HFC.out.2 _ (getD_mem (d := 0) (show i < ys.length by omega))
   have HEI := Lib.hid (castR_get ys i)
   have i1 : (0 : Int) ≤ (i : Int) := by omega
   have i2 : (i : Int) < (n : Int) := by omega
   generalize ys[i]?.getD 0 = y at *
   have HFY := Lib.hid hfy
   have HR := Lib.hid (And.intro hB (And.intro hO hE))
   clear hcl hB hO hE hR hfy hb
   go_wp2_with fail
   refine (T1.out y (by have := HFY.out.1; omega) (by have := HFY.out.2; omega) wr).mono ?_
   rintro e v1 ⟨A1, k1, c1, A2, k2, c2, rfl, hk1, hk2, hW1, hW2, hF1, hF2, hb1⟩
   generalize ((y : Int) : Rat) = yq at *
   have HW := Lib.hid (And.intro (show WQ v1 yq A1 k1 c1 A2 k2 c2 from ⟨hk1, hk2, hW1, hW2⟩) (And.intro hF1 hF2))
   have HB1 := Lib.hid hb1
   clear hk1 hk2 hW1 hW2 hF1 hF2 hb1 hcell
   have hO1 := (HR.out.2.1.keep HB1.out).keep ((Kp.refl v1).alloc (.cells #[.bool (decide (yq.num < 0)), .slice A1 k1 c1, .bool false, .slice A2 k2 c2] 42))
   have m1 := Blk.new v1 42 #[.bool (decide (yq.num < 0)), .slice A1 k1 c1, .bool false, .slice A2 k2 c2]
   have s1 : Kp W (v1.alloc (.cells #[.bool (decide (yq.num < 0)), .slice A1 k1 c1, .bool false, .slice A2 k2 c2] 42)) := Kp.alloc (Below.trans HR.out.1 (Below.mono HB1.out (Below.size HR.out.1))) _
   go_wp2_with (first
    | (at_builtin; refine wpList_append_at rfl (base := W.heap.size) (e := 42) (size := 4) (bytes := 64) (.tmp 35) (.tmp 41) 46 rfl Tryz.underlying46 HI.out HZ0.out HZ1.out HZ2.out rfl (by decide) (xs := qCells es) (news := [.bool (decide (yq.num < 0)), .slice A1 k1 c1, .bool false, .slice A2 k2 c2]) rfl (by exact hO1) rfl (by exact Blk.src m1 rfl (qCells_one [(decide (yq.num < 0), (A1, k1, c1), (A2, k2, c2))])) (by simp only [maxLen]; omega) (by omega) (by exact Below.size s1) ?_
       intro B2 cb2 w2' hO2 hb2 hk2 hs2
       have HP := Lib.hid (And.intro hO2 (And.intro hb2 (And.intro hk2 hs2)))
       clear hO2 hb2 hk2 hs2))
   have hfin : Kp W w2' ∧ Own W.heap.size 42 4 w2' B2 (i + 1) cb2 (qCells (es ++ [(decide (yq.num < 0), (A1, k1, c1), (A2, k2, c2))])) ∧ QEnts B2 (castR ys) w2' (i + 1) (es ++ [(decide (yq.num < 0), (A1, k1, c1), (A2, k2, c2))]) := by
    obtain ⟨hO2, hb2, hk2, hs2⟩ := HP.out
    refine ⟨Below.trans s1 hb2, by rw [qCells_append]; exact hO2, ?_⟩
    have hlt2 := HR.out.2.1.blk_lt
    have he1 := (HR.out.2.2.below HB1.out).snoc (by rw [HEI.out]) (by rw [HEI.out]; exact HW.out.1) (Off.fresh HW.out.2.1 hlt2) (Off.fresh HW.out.2.2 hlt2)
    exact (he1.below ((Kp.refl v1).alloc _)).app hk2 hs2
   have HF := Lib.hid hfin
   clear hfin HP hO1 m1 s1
   go_wp2
   go_roundw
   case rel => exact ⟨i + 1, B2, cb2, _, by omega, by go_num, rfl, HF.out⟩
   case measure => simp [intOf]; omega
  ·obtain rfl : i = n := by omega
   obtain ⟨hB, hO, hE⟩ := hR.out
   have hl : ys.length = i := HX.out.1
   have hys2 := hO.qs (by simp [castR, hl]) hE
   have T4 := Lib.hid (fun Wn (hW : Kp wr Wn) => rrows_yes _ _ i i ch (castR ys) Wn ((HQ5.out.below hB).below hW) (hys2.below hW) (by omega) (by
    intro p hp
    obtain ⟨y, hy, rfl⟩ := List.mem_map.1 hp
    have hf := HFC.out.2 y hy
    unfold Fits at hf
    rw [Rat.num_intCast, Rat.den_intCast]
    have := len_le_two (m := y.natAbs) (by omega)
    exact ⟨by omega, by simp [denW]⟩))
   have T5 : ∀ Wn, Kp wr Wn → Calls Tryz.prog 37 #[.int .i64 cost] Wn (RetQ Wn cq) := fun Wn _ => by
    have := T1.out cost HFC.out.1.1 HFC.out.1.2 Wn
    rwa [HCQ.out] at this
   have T5 := Lib.hid T5
   have hsz : (digs cq.num.natAbs).length ≤ 1000000 ∧ (denW cq.den).length ≤ 1000000 := by
    have hf := HFC.out.1
    unfold Fits at hf
    rw [← HCQ.out, Rat.num_intCast, Rat.den_intCast]
    have := len_le_two (m := cost.natAbs) (by omega)
    exact ⟨by omega, by simp [denW]⟩
   have T6 : ∀ Wn, Kp wr Wn → ∀ B1 j1 d1 B2 j2 d2, WQ Wn cq B1 j1 d1 B2 j2 d2 → Calls Tryz.prog 34 #[.agg #[.bool (decide (cq.num < 0)), .slice A5 k5 c5, .bool false, .slice A6 k6 c6], .agg #[.bool (decide (cq.num < 0)), .slice B1 j1 d1, .bool false, .slice B2 j2 d2]] Wn fun e w' => e = .returned (.bool true) ∧ Below Wn.heap.size Wn w' := fun Wn hW B1 j1 d1 B2 j2 d2 hq => by
    have hc := (HC5.out.below hB).below hW
    obtain rfl : j1 = k5 := by rw [hq.2.2.1.len, hc.2.2.1.len]
    obtain rfl : j2 = k6 := by rw [hq.2.2.2.len, hc.2.2.2.len]
    exact ris_yes cq A5 B1 A6 B2 j1 c5 j2 c6 d1 d2 Wn hc hq (by rw [hc.2.2.1.len]; exact hsz.1) (by rw [hc.2.2.2.len]; exact hsz.2)
   have T6 := Lib.hid T6
   have hbx := HBX.out.below hB HBX.out.lt
   have HBW := Lib.hid (show Below w.heap.size w wr from HB5.out.trans (Below.mono hB HB5.out.size))
   have s5 := Kp.refl wr
   clear hR hB hO hE hys2 hsz HBX HB5 HC5 HQ5 T1
   go_wp2_with fail
   have hS : ∀ w', Kp wr w' → (w'.cell? ⟨bx, 0, none⟩ = some (.bool (decide (cq.num < 0))) ∧ w'.cell? ⟨bx, 1, none⟩ = some (.slice A5 k5 c5) ∧ w'.cell? ⟨bx, 2, none⟩ = some (.bool false) ∧ w'.cell? ⟨bx, 3, none⟩ = some (.slice A6 k6 c6)) ∧ Kp wr w' := fun w' hk => ⟨⟨(hk.blk hbx).cell 0, (hk.blk hbx).cell 1, (hk.blk hbx).cell 2, (hk.blk hbx).cell 3⟩, hk⟩
   have HS := Lib.hid hS
   clear hS
   go_region_held3 (fun w' => (w'.cell? ⟨bx, 0, none⟩ = some (.bool (decide (cq.num < 0))) ∧ w'.cell? ⟨bx, 1, none⟩ = some (.slice A5 k5 c5) ∧ w'.cell? ⟨bx, 2, none⟩ = some (.bool false) ∧ w'.cell? ⟨bx, 3, none⟩ = some (.slice A6 k6 c6)) ∧ Kp wr w')
    (first | (with_reducible refine HS.out _ ?_; with_reducible assumption) | (with_reducible refine HS.out _ (Kp.drew ?_); with_reducible assumption) | (with_reducible refine' HS.out _ (Kp.drew (And.right ?_)); rotate_left; with_reducible assumption))
    (first
     | (go_at_call 37; have hk := And.right ‹_ ∧ Kp wr _›; refine (T5.out _ hk).mono ?_; rintro e v1 ⟨B1, j1, d1, B2, j2, d2, rfl, hj1, hj2, hV1, hV2, -, -, hb1⟩; have hr1 := hk.trans hb1; have HV := Lib.hid (show WQ v1 cq B1 j1 d1 B2 j2 d2 from ⟨hj1, hj2, hV1, hV2⟩); clear hb1 hj1 hj2 hV1 hV2)
     | (go_at_call 34; have hk := And.right ‹_ ∧ Kp wr _›; refine (T6.out _ hk _ _ _ _ _ _ HV.out).mono ?_; rintro e v2 ⟨rfl, hb2⟩; have hr2 := hk.trans hb2; clear hb2)
     | (go_at_call 33; have hk := And.right ‹_ ∧ Kp wr _›; refine (T4.out _ hk).mono ?_; rintro e v3 ⟨rfl, hb3⟩; have hr3 := hk.trans hb3; clear hb3))
   have HF := Lib.hid (HBW.out.trans (Below.mono hr3 HBW.out.size))
   clear hr1 hr2 hr3
   go_wp2
   go_ret
   exact ⟨rfl, HF.out⟩

end Go.Proofs.YtjajigkacccdgaaGreat

namespace Go.Proofs.YtjajigkacccdgaaGreat
set_option linter.unusedVariables false
set_option linter.unusedSimpArgs false
open Go.RowKit
open Wd

def stCells (l : List (Int × Int)) : List Value := l.flatMap fun s => [.int .i64 s.1, .int .i64 s.2]
theorem stCells_append (a b : List (Int × Int)) : stCells (a ++ b) = stCells a ++ stCells b := by simp [stCells]
theorem stCells_len (l : List (Int × Int)) : (stCells l).length = l.length * 2 := by
 induction l with
 | nil => rfl
 | cons s l ih =>
  have : stCells (s :: l) = [.int .i64 s.1, .int .i64 s.2] ++ stCells l := by simp [stCells]
  rw [this, List.length_append, ih]
  simp
  omega
theorem stCells_get : ∀ (l : List (Int × Int)) (j : Nat), j < l.length → (stCells l)[j * 2]? = some (.int .i64 (l[j]?.getD (0, 0)).1) ∧ (stCells l)[j * 2 + 1]? = some (.int .i64 (l[j]?.getD (0, 0)).2)
 | [], j, h => absurd h (by simp)
 | s :: l, 0, _ => by simp [stCells]
 | s :: l, j + 1, h => by
  have e : stCells (s :: l) = .int .i64 s.1 :: .int .i64 s.2 :: stCells l := by simp [stCells]
  have ih := stCells_get l j (by simpa using h)
  rw [e, show (j + 1) * 2 = j * 2 + 1 + 1 by omega, show j * 2 + 1 + 1 + 1 = (j * 2 + 1) + 1 + 1 by omega, List.getElem?_cons_succ, List.getElem?_cons_succ, List.getElem?_cons_succ, List.getElem?_cons_succ, List.getElem?_cons_succ]
  exact ih
theorem stCells_one (l : List (Int × Int)) : ∀ u ∈ stCells l, u.oneCell' = true := by
 intro u hu
 obtain ⟨s, _, h⟩ := List.mem_flatMap.1 hu
 simp at h
 rcases h with rfl | rfl <;> rfl
theorem Own.steps {base : Nat} {e : TypeId} {w : World} {A : Option Addr} {n c : Nat} {l : List (Int × Int)} (h : Own base e 2 w A n c (stCells l)) (hf : ∀ s ∈ l, Fits s.1 ∧ Fits s.2) : StAt w A n l := by
 have hl : l.length = n := by have := h.1; rw [stCells_len] at this; omega
 refine ⟨hl, hf, fun hn => ?_⟩
 obtain ⟨g, cap, hv, hb, hlt⟩ := World.ownsRow.form h (by omega)
 simp at hv
 obtain ⟨rfl, rfl⟩ := hv
 have hcl := stCells_len l
 refine ⟨g, 0, rfl, hlt, fun j hj => ?_⟩
 obtain ⟨g1, g2⟩ := stCells_get l j (by omega)
 rw [Nat.zero_add, World.ownsRow.cellAt h (j * 2) (by omega), World.ownsRow.cellAt h (j * 2 + 1) (by omega)]
 exact ⟨g1, g2⟩
theorem info_step : (Tryz.prog.info? 107).map (fun i => (i.zero, i.size, i.bytes)) = some (some (.agg #[.int .i64 0, .int .i64 0]), 2, 16) := by kernel_rfl
/-- The steps of a list qty, price, qty, price. -/
def prs (xs : List Int) : Nat → List (Int × Int)
 | 0 => []
 | k + 1 => prs xs k ++ [(xs[2 * k]?.getD 0, xs[2 * k + 1]?.getD 0)]

theorem prs_fits {xs : List Int} (h : ∀ i : Nat, Fits (xs[i]?.getD 0)) : ∀ k, ∀ s ∈ prs xs k, Fits s.1 ∧ Fits s.2
 | 0, s, hs => by simp [prs] at hs
 | k + 1, s, hs => by
  rw [prs, List.mem_append] at hs
  rcases hs with hs | hs
  ·exact prs_fits h k s hs
  ·simp at hs
   rw [hs]
   exact ⟨h _, h _⟩

set_option maxRecDepth 100000 in
set_option maxHeartbeats 4000000 in
theorem curve_any (A : Option Addr) (n c : Nat) (xs : List Int) (w : World) (h : IsAt w A (2 * n) xs) (hn : n ≤ 1000000) (hf : ∀ i : Nat, Fits (xs[i]?.getD 0)) :
  Calls Tryz.prog 36 #[.slice A ((2 * n : Nat)) c] w fun e w' => ∃ A1 c1, e = .returned (.slice A1 n c1) ∧ StAt w' A1 n (prs xs n) ∧ Below w.heap.size w w' := by
 have HX := Lib.hid h
 have HFT := Lib.hid hf
 obtain ⟨ii, hii, hz0, hz1, hz2⟩ := info_parts info_step
 have HI := Lib.hid hii
 have HZ0 := Lib.hid hz0
 have HZ1 := Lib.hid hz1
 have HZ2 := Lib.hid hz2
 generalize hN : 2 * n = N at *
 have HN := Lib.hid hN
 clear h hf hii hz0 hz1 hz2 hN
 go_enter Tryz.func36, Tryz.ntmps36
 go_wp2_with fail
 go_loopw [3, 4] (fun th t wr => ∃ (i k : Nat) (Ah : Option Addr) (ch : Nat), i ≤ n ∧ t = .int .i64 (k : Int) ∧ th = .slice Ah i ch ∧ Hid (k = 2 * i) ∧ Hid (Below w.heap.size w wr ∧ Own w.heap.size 107 2 wr Ah i ch (stCells (prs xs i)))) (fun _ t _ => N + 2 - (intOf t).toNat)
 case atStart => exact ⟨0, 0, none, 0, Nat.zero_le _, rfl, rfl, rfl, Below.refl _ _, Own.nil _ _ _ _⟩
 case round =>
  obtain ⟨i, k, Ah, ch, hi, rfl, rfl, hK, hR⟩ := hrel
  have hki := hK.out
  have hN := HN.out
  have e0 : IntKind.i64.wrap ((k : Int) + 1) = (k : Int) + 1 := IntWalk.i64_in _ (by omega)
  have e1 : IntKind.i64.wrap ((k : Int) + 2) = (k : Int) + 2 := IntWalk.i64_in _ (by omega)
  by_cases hlt : i < n
  ·obtain ⟨hB, hO⟩ := hR.out
   obtain ⟨g, o, rfl, hb, hc⟩ := HX.out.2 (by omega)
   have hc0 := hc k (by omega)
   have hc1 := hc (k + 1) (by omega)
   have hsn : prs xs (i + 1) = prs xs i ++ [(xs[k]?.getD 0, xs[k + 1]?.getD 0)] := by rw [hki]; rfl
   have hlt1 : ((k : Int) + 1 < (N : Int)) := by omega
   have hlt2 : ((k : Int) < (N : Int)) := by omega
   have hlt3 : ((0 : Int) ≤ (k : Int)) := by omega
   have hlt4 : ((0 : Int) ≤ (k : Int) + 1) := by omega
   have d1 : decide ((k : Int) + 1 < (N : Int)) = true := decide_eq_true hlt1
   have tn2 : ((k : Int) + 1).toNat = k + 1 := by omega
   generalize xs[k]?.getD 0 = a at *
   generalize xs[k + 1]?.getD 0 = b at *
   have hS : ∀ w', Below w.heap.size w w' → (w'.cell? ⟨g, o + k, none⟩ = some (.int .i64 a) ∧ w'.cell? ⟨g, o + (k + 1), none⟩ = some (.int .i64 b)) ∧ Below w.heap.size w w' := fun w' hk => ⟨⟨(hk.cell (p := ⟨g, _, none⟩) hb).trans hc0, (hk.cell (p := ⟨g, _, none⟩) hb).trans hc1⟩, hk⟩
   have HS := Lib.hid hS
   have HSN := Lib.hid hsn
   have HNK := Lib.hid (show N = 2 * n ∧ k = 2 * i from ⟨hN.symm, hki⟩)
   have q0 := hB
   have k1 := (Kp.refl wr).alloc (.cells #[.int .i64 a, .int .i64 b] 107)
   have q1 : Below w.heap.size w (wr.alloc (.cells #[.int .i64 a, .int .i64 b] 107)) := hB.trans (Below.mono k1 hB.size)
   have o1 := hO.keep k1
   have m1 := Blk.new wr 107 #[.int .i64 a, .int .i64 b]
   have hin : i ≤ 1000000 := by omega
   clear hsn hc hc0 hc1 hR hN hki hK hS
   go_wp2_with fail
   go_region_held3 (fun w' => (w'.cell? ⟨g, o + k, none⟩ = some (.int .i64 a) ∧ w'.cell? ⟨g, o + (k + 1), none⟩ = some (.int .i64 b)) ∧ Below w.heap.size w w')
    (first | exact HS.out _ g1 | exact HS.out _ q0.drew | exact HS.out _ q1.drew)
    (first
     | (refine step_append_my (base := w.heap.size) (e := 107) (size := 2) (bytes := 16) (by rfl) (.tmp 12) (.tmp 23) 29 rfl Tryz.underlying29 HI.out HZ0.out HZ1.out HZ2.out rfl (by decide) (xs := stCells (prs xs i)) (news := [.int .i64 a, .int .i64 b]) rfl (by exact o1) rfl (by exact Blk.src m1 rfl (stCells_one [(a, b)])) (by simp only [maxLen]; omega) (by omega) (Below.size (w := w) (B := w.heap.size) (by exact q1.drew)) ?_
        intro B1 cb1 w1 hO1 hb1 hk1
        have g1 : Below w.heap.size w w1 := Below.trans (by exact q1.drew) hb1
        clear hb1 hk1))
   have hfin : Below w.heap.size w w1 ∧ Own w.heap.size 107 2 w1 B1 (i + 1) cb1 (stCells (prs xs (i + 1))) := by
    refine ⟨g1, ?_⟩
    rw [HSN.out, stCells_append]
    exact hO1
   have HF := Lib.hid hfin
   clear hfin g1 hO1
   go_wp2
   go_roundw
   case rel => exact ⟨i + 1, k + 2, B1, cb1, by omega, by go_num, rfl, (by have := HNK.out; omega : k + 2 = 2 * (i + 1)), HF.out⟩
   case measure =>
    have := HNK.out
    simp [intOf]
    omega
  ·obtain rfl : i = n := by omega
   have d1 : decide ((k : Int) + 1 < (N : Int)) = false := decide_eq_false (by omega)
   have hfin : StAt wr Ah i (prs xs i) ∧ Below w.heap.size w wr := ⟨hR.out.2.steps (prs_fits HFT.out _), hR.out.1⟩
   have HF := Lib.hid hfin
   clear hfin hR hN hki
   go_wp2
   go_ret
   exact ⟨Ah, ch, rfl, HF.out⟩

end Go.Proofs.YtjajigkacccdgaaGreat
