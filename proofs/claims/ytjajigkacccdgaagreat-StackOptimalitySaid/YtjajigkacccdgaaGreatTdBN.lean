/-
The statements of layer 24: level, shares. The statements of layer 24: told. No statement of the seat is proved here; no conditions beyond those of each theorem.
-/
import Derived.Test.YtjajigkacccdgaaGreatTdBM
import Derived.Test.YtjajigkacccdgaaGreatTdBE
import Derived.Test.YtjajigkacccdgaaGreatTdAY
namespace Go.Proofs.YtjajigkacccdgaaGreat
set_option linter.unusedVariables false
set_option linter.unusedSimpArgs false
open Go.RowKit
open Wd

set_option maxRecDepth 100000 in
set_option maxHeartbeats 1000000 in
theorem level_any (p q : Int) (A : Option Addr) (n c : Nat) (w : World) :
  Calls Tryz.prog 35 #[.int .i64 p, .int .i64 q, .slice A n c] w fun e w' => e = .returned (.agg #[.int .i64 p, .int .i64 q, .slice A n c]) ∧ Below w.heap.size w w' := by
 go_enter Tryz.func35, Tryz.ntmps35
 have hB := Blk.new w 64 #[.int .i64 p, .int .i64 q, .slice A n c]
 have c0 := hB.cell 0
 have c1 := hB.cell 1
 have c2 := hB.cell 2
 simp at c0 c1 c2
 go_wp2
 refine bodyPost_ret (v := .agg #[.int .i64 p, .int .i64 q, .slice A n c]) ?_ rfl ⟨rfl, (Below.refl _ _).alloc (Nat.le_refl _) _⟩
 simp [results, Tryz.results35, go_sem, c0, c1, c2]

set_option maxRecDepth 100000 in
set_option maxHeartbeats 1000000 in
theorem shares_yes (up : Bool) (A R : Option Addr) (m n c rc : Nat) (lv : List St.Lv) (z cost : Int) (w : World) (h : LvAt w A m n lv) (hv : VL up n lv) (h0 : 0 ≤ z) (h1 : z ≤ totI lv) (hm0 : m ≠ 0) (hr : IsAt w R n (shAll lv n z m)) (hc : cost = costI (lvQ lv) z m) (hcb : Fits cost) (hyb : ∀ y ∈ shAll lv n z m, Fits y) :
  Calls Tryz.prog 64 #[.slice A m c, .int .i64 z, .int .i64 cost, .slice R n rc] w fun e w' => e = .returned (.bool true) ∧ Below w.heap.size w w' := by
 have hzb := (tot_bd lv hv.qty).2
 have hl48 := hv.len
 have hll := h.1
 have T1 := Lib.hid (fun (x : Int) (hx1 : -9223372036854775808 ≤ x) (hx2 : x ≤ 9223372036854775807) W => rint_any x W hx1 hx2)
 have T2 := Lib.hid (fun W (hW : Below w.heap.size w W) aA aA' ak ac ak' ac' hq => share_ok up A m n c lv z aA aA' ak ac ak' ac' W (h.below hW) hv hq h0 h1 hm0)
 have T3 := Lib.hid (fun W (hW : Below w.heap.size w W) aA aA' ak ac ak' ac' hq => kcost_whole up A m n c lv z aA aA' ak ac ak' ac' W (h.below hW) hv hq h0 h1)
 have HX := Lib.hid hr
 have hz1 : -9223372036854775808 ≤ z := by omega
 have hz2 : z ≤ 9223372036854775807 := by omega
 have HZ := Lib.hid (And.intro hz1 hz2)
 have HCO := Lib.hid hc
 have HFC := Lib.hid (And.intro hcb hyb)
 have hn16 := hv.n16
 clear hzb hl48 hll h hv h0 h1 hr hz1 hz2 hc hcb hyb
 go_enter Tryz.func64, Tryz.ntmps64
 go_wp2_with fail
 refine (T1.out z HZ.out.1 HZ.out.2 w).mono ?_
 rintro e w1 ⟨A1, k1, c1, A2, k2, c2, rfl, hk1, hk2, hW1, hW2, -, -, hb1⟩
 go_wp2_with fail
 refine (T2.out w1 hb1 A1 A2 k1 c1 k2 c2 ⟨hk1, hk2, hW1, hW2⟩).mono ?_
 rintro e w2 ⟨g, rfl, hQ2, hg, hb2⟩
 have hB2 : Below w.heap.size w w2 := hb1.trans (hb2.mono hb1.size)
 have HQ2 := Lib.hid hQ2
 clear hb1 hb2 hW1 hW2 hk1 hk2 hQ2
 go_wp2_with fail
 refine (T1.out z HZ.out.1 HZ.out.2 w2).mono ?_
 rintro e w3 ⟨A1, k1, c1, A2, k2, c2, rfl, hk1, hk2, hW1, hW2, -, -, hb3⟩
 have hB3 := hB2.trans (hb3.mono hB2.size)
 have HQ3 := Lib.hid (HQ2.out.at.below hb3)
 clear HQ2 hB2 hb3
 go_wp2_with fail
 refine (T3.out w3 hB3 A1 A2 k1 c1 k2 c2 ⟨hk1, hk2, hW1, hW2⟩).mono ?_
 rintro e w4 ⟨A5, k5, c5, A6, k6, c6, rfl, hC, hb4⟩
 have hB4 := hB3.trans (hb4.mono hB3.size)
 have HQ4 := Lib.hid (HQ3.out.below hb4)
 clear HQ3 hB3 hb4 hW1 hW2 hk1 hk2
 obtain ⟨hC1, hC2, hC3, hC4, -, -⟩ := hC
 generalize hcq : ((costI (lvQ lv) z m : Int) : Rat) = cq at *
 have HC := Lib.hid (show WQ w4 cq A5 k5 c5 A6 k6 c6 from ⟨hC1, hC2, hC3, hC4⟩)
 have HCQ := Lib.hid (show ((cost : Int) : Rat) = cq by rw [HCO.out]; exact hcq)
 clear hC1 hC2 hC3 hC4 hcq HCO T2 T3
 go_wp2_with fail
 have hBx := Blk.new w4 42 #[.bool (decide (cq.num < 0)), .slice A5 k5 c5, .bool false, .slice A6 k6 c6]
 have k4 := (Kp.refl w4).alloc (.cells #[.bool (decide (cq.num < 0)), .slice A5 k5 c5, .bool false, .slice A6 k6 c6] 42)
 have HQ5 := Lib.hid (HQ4.out.below k4)
 have HC5 := Lib.hid (HC.out.below k4)
 have hB5 := hB4.trans (Below.mono k4 hB4.size)
 generalize hbx : w4.heap.size = bx at *
 generalize w4.alloc (.cells #[.bool (decide (cq.num < 0)), .slice A5 k5 c5, .bool false, .slice A6 k6 c6] 42) = W at *
 clear k4 HQ4 HC hB4 hbx
 have HBX := Lib.hid hBx
 have HB5 := Lib.hid hB5
 obtain ⟨ii, hii, hz0, hz1, hz2⟩ := info_parts info_q
 have HI := Lib.hid hii
 have HZ0 := Lib.hid hz0
 have HZ1 := Lib.hid hz1
 have HZ2 := Lib.hid hz2
 clear hBx hB5 hii hz0 hz1 hz2
 generalize hys : shAll lv n z m = ys at *
 go_loopw [13, 14] (fun th t wr => ∃ (i : Nat) (Ah : Option Addr) (ch : Nat) (es : List QEnt), i ≤ n ∧ t = .int .i64 (i : Int) ∧ th = .slice Ah i ch ∧ Hid (Kp W wr ∧ Own W.heap.size 42 4 wr Ah i ch (qCells es) ∧ QEnts Ah (castR ys) wr i es)) (fun _ t _ => n - (intOf t).toNat)
 case atStart => exact ⟨0, none, 0, [], Nat.zero_le _, rfl, rfl, Kp.refl _, Own.nil _ _ _ _, QEnts.start⟩
 case round =>
  obtain ⟨i, Ah, ch, es, hi, rfl, rfl, hR⟩ := hrel
  by_cases hlt : i < n
  ·obtain ⟨hB, hO, hE⟩ := hR.out
   obtain ⟨gr, or, rfl, hb, hcl⟩ := HX.out.2 (by omega)
   have hl : ys.length = n := HX.out.1
   have hcell := (hB.cell (p := ⟨gr, or + i, none⟩) (Nat.lt_of_lt_of_le hb HB5.out.size)).trans ((HB5.out.cell (p := ⟨gr, or + i, none⟩) hb).trans (hcl i hlt))
   have hfy := HFC.out.2 _ (getD_mem (d := 0) (show i < ys.length by omega))
   have HEI := Lib.hid (castR_get ys i)
   have i1 : (0 : Int) ≤ (i : Int) := by omega
   have i2 : (i : Int) < (n : Int) := by omega
   generalize ys[i]?.getD 0 = y at *
   have HFY := Lib.hid hfy
   have HR := Lib.hid (And.intro hB (And.intro hO hE))
   clear hcl hB hO hE hR hfy hb
   go_wp2_with fail
   refine (T1.out y (by have := HFY.out.1; omega) (by have := HFY.out.2; omega) wr).mono ?_
   rintro e v1 ⟨A1, k1, c1, A2, k2, c2, rfl, hk1, hk2, hW1, hW2, hF1, hF2, hb1⟩
   generalize ((y : Int) : Rat) = yq at *
   have HW := Lib.hid (And.intro (show WQ v1 yq A1 k1 c1 A2 k2 c2 from ⟨hk1, hk2, hW1, hW2⟩) (And.intro hF1 hF2))
   have HB1 := Lib.hid hb1
   clear hk1 hk2 hW1 hW2 hF1 hF2 hb1 hcell
   have hO1 := (HR.out.2.1.keep HB1.out).keep ((Kp.refl v1).alloc (.cells #[.bool (decide (yq.num < 0)), .slice A1 k1 c1, .bool false, .slice A2 k2 c2] 42))
   have m1 := Blk.new v1 42 #[.bool (decide (yq.num < 0)), .slice A1 k1 c1, .bool false, .slice A2 k2 c2]
   have s1 : Kp W (v1.alloc (.cells #[.bool (decide (yq.num < 0)), .slice A1 k1 c1, .bool false, .slice A2 k2 c2] 42)) := Kp.alloc (Below.trans HR.out.1 (Below.mono HB1.out (Below.size HR.out.1))) _
   go_wp2_with (first
    | (at_builtin; refine wpList_append_at rfl (base := W.heap.size) (e := 42) (size := 4) (bytes := 64) (.tmp 35) (.tmp 41) 46 rfl Tryz.underlying46 HI.out HZ0.out HZ1.out HZ2.out rfl (by decide) (xs := qCells es) (news := [.bool (decide (yq.num < 0)), .slice A1 k1 c1, .bool false, .slice A2 k2 c2]) rfl (by exact hO1) rfl (by exact Blk.src m1 rfl (qCells_one [(decide (yq.num < 0), (A1, k1, c1), (A2, k2, c2))])) (by simp only [maxLen]; omega) (by omega) (by exact Below.size s1) ?_
       intro B2 cb2 w2' hO2 hb2 hk2 hs2
       have HP := Lib.hid (And.intro hO2 (And.intro hb2 (And.intro hk2 hs2)))
       clear hO2 hb2 hk2 hs2))
   have hfin : Kp W w2' ∧ Own W.heap.size 42 4 w2' B2 (i + 1) cb2 (qCells (es ++ [(decide (yq.num < 0), (A1, k1, c1), (A2, k2, c2))])) ∧ QEnts B2 (castR ys) w2' (i + 1) (es ++ [(decide (yq.num < 0), (A1, k1, c1), (A2, k2, c2))]) := by
    obtain ⟨hO2, hb2, hk2, hs2⟩ := HP.out
    refine ⟨Below.trans s1 hb2, by rw [qCells_append]; exact hO2, ?_⟩
    have hlt2 := HR.out.2.1.blk_lt
    have he1 := (HR.out.2.2.below HB1.out).snoc (by rw [HEI.out]) (by rw [HEI.out]; exact HW.out.1) (Off.fresh HW.out.2.1 hlt2) (Off.fresh HW.out.2.2 hlt2)
    exact (he1.below ((Kp.refl v1).alloc _)).app hk2 hs2
   have HF := Lib.hid hfin
   clear hfin HP hO1 m1 s1
   go_wp2
   go_roundw
   case rel => exact ⟨i + 1, B2, cb2, _, by omega, by go_num, rfl, HF.out⟩
   case measure => simp [intOf]; omega
  ·obtain rfl : i = n := by omega
   obtain ⟨hB, hO, hE⟩ := hR.out
   have hl : ys.length = i := HX.out.1
   have hys2 := hO.qs (by simp [castR, hl]) hE
   have T4 := Lib.hid (fun Wn (hW : Kp wr Wn) => rrows_yes _ _ i i ch (castR ys) Wn ((HQ5.out.below hB).below hW) (hys2.below hW) (by omega) (by
    intro p hp
    obtain ⟨y, hy, rfl⟩ := List.mem_map.1 hp
    have hf := HFC.out.2 y hy
    unfold Fits at hf
    rw [Rat.num_intCast, Rat.den_intCast]
    have := len_le_two (m := y.natAbs) (by omega)
    exact ⟨by omega, by simp [denW]⟩))
   have T5 : ∀ Wn, Kp wr Wn → Calls Tryz.prog 37 #[.int .i64 cost] Wn (RetQ Wn cq) := fun Wn _ => by
    have := T1.out cost HFC.out.1.1 HFC.out.1.2 Wn
    rwa [HCQ.out] at this
   have T5 := Lib.hid T5
   have hsz : (digs cq.num.natAbs).length ≤ 1000000 ∧ (denW cq.den).length ≤ 1000000 := by
    have hf := HFC.out.1
    unfold Fits at hf
    rw [← HCQ.out, Rat.num_intCast, Rat.den_intCast]
    have := len_le_two (m := cost.natAbs) (by omega)
    exact ⟨by omega, by simp [denW]⟩
   have T6 : ∀ Wn, Kp wr Wn → ∀ B1 j1 d1 B2 j2 d2, WQ Wn cq B1 j1 d1 B2 j2 d2 → Calls Tryz.prog 34 #[.agg #[.bool (decide (cq.num < 0)), .slice A5 k5 c5, .bool false, .slice A6 k6 c6], .agg #[.bool (decide (cq.num < 0)), .slice B1 j1 d1, .bool false, .slice B2 j2 d2]] Wn fun e w' => e = .returned (.bool true) ∧ Below Wn.heap.size Wn w' := fun Wn hW B1 j1 d1 B2 j2 d2 hq => by
    have hc := (HC5.out.below hB).below hW
    obtain rfl : j1 = k5 := by rw [hq.2.2.1.len, hc.2.2.1.len]
    obtain rfl : j2 = k6 := by rw [hq.2.2.2.len, hc.2.2.2.len]
    exact ris_yes cq A5 B1 A6 B2 j1 c5 j2 c6 d1 d2 Wn hc hq (by rw [hc.2.2.1.len]; exact hsz.1) (by rw [hc.2.2.2.len]; exact hsz.2)
   have T6 := Lib.hid T6
   have hbx := HBX.out.below hB HBX.out.lt
   have HBW := Lib.hid (show Below w.heap.size w wr from HB5.out.trans (Below.mono hB HB5.out.size))
   have s5 := Kp.refl wr
   clear hR hB hO hE hys2 hsz HBX HB5 HC5 HQ5 T1
   go_wp2_with fail
   have hS : ∀ w', Kp wr w' → (w'.cell? ⟨bx, 0, none⟩ = some (.bool (decide (cq.num < 0))) ∧ w'.cell? ⟨bx, 1, none⟩ = some (.slice A5 k5 c5) ∧ w'.cell? ⟨bx, 2, none⟩ = some (.bool false) ∧ w'.cell? ⟨bx, 3, none⟩ = some (.slice A6 k6 c6)) ∧ Kp wr w' := fun w' hk => ⟨⟨(hk.blk hbx).cell 0, (hk.blk hbx).cell 1, (hk.blk hbx).cell 2, (hk.blk hbx).cell 3⟩, hk⟩
   have HS := Lib.hid hS
   clear hS
   go_region_held3 (fun w' => (w'.cell? ⟨bx, 0, none⟩ = some (.bool (decide (cq.num < 0))) ∧ w'.cell? ⟨bx, 1, none⟩ = some (.slice A5 k5 c5) ∧ w'.cell? ⟨bx, 2, none⟩ = some (.bool false) ∧ w'.cell? ⟨bx, 3, none⟩ = some (.slice A6 k6 c6)) ∧ Kp wr w')
    (first | (with_reducible refine HS.out _ ?_; with_reducible assumption) | (with_reducible refine HS.out _ (Kp.drew ?_); with_reducible assumption) | (with_reducible refine' HS.out _ (Kp.drew (And.right ?_)); rotate_left; with_reducible assumption))
    (first
     | (go_at_call 37; have hk := And.right ‹_ ∧ Kp wr _›; refine (T5.out _ hk).mono ?_; rintro e v1 ⟨B1, j1, d1, B2, j2, d2, rfl, hj1, hj2, hV1, hV2, -, -, hb1⟩; have hr1 := hk.trans hb1; have HV := Lib.hid (show WQ v1 cq B1 j1 d1 B2 j2 d2 from ⟨hj1, hj2, hV1, hV2⟩); clear hb1 hj1 hj2 hV1 hV2)
     | (go_at_call 34; have hk := And.right ‹_ ∧ Kp wr _›; refine (T6.out _ hk _ _ _ _ _ _ HV.out).mono ?_; rintro e v2 ⟨rfl, hb2⟩; have hr2 := hk.trans hb2; clear hb2)
     | (go_at_call 33; have hk := And.right ‹_ ∧ Kp wr _›; refine (T4.out _ hk).mono ?_; rintro e v3 ⟨rfl, hb3⟩; have hr3 := hk.trans hb3; clear hb3))
   have HF := Lib.hid (HBW.out.trans (Below.mono hr3 HBW.out.size))
   clear hr1 hr2 hr3
   go_wp2
   go_ret
   exact ⟨rfl, HF.out⟩

end Go.Proofs.YtjajigkacccdgaaGreat

namespace Go.Proofs.YtjajigkacccdgaaGreat
set_option linter.unusedVariables false
set_option linter.unusedSimpArgs false
open Go.RowKit
open Wd

/-- A level in memory: price, quantity, where its parts lie and their capacity. -/
abbrev Ent := Int × Int × Option Addr × Nat
def eCells (n : Nat) (es : List Ent) : List Value := es.flatMap fun e => [.int .i64 e.1, .int .i64 e.2.1, .slice e.2.2.1 n e.2.2.2]
theorem eCells_append (n : Nat) (a b : List Ent) : eCells n (a ++ b) = eCells n a ++ eCells n b := by simp [eCells]
theorem eCells_len (n : Nat) (l : List Ent) : (eCells n l).length = l.length * 3 := by
 induction l with
 | nil => rfl
 | cons s l ih =>
  have : eCells n (s :: l) = [.int .i64 s.1, .int .i64 s.2.1, .slice s.2.2.1 n s.2.2.2] ++ eCells n l := by simp [eCells]
  rw [this, List.length_append, ih]
  simp
  omega
def Ent0 : Ent := (0, 0, none, 0)
theorem eCells_get (n : Nat) : ∀ (l : List Ent) (j : Nat), j < l.length → (eCells n l)[j * 3]? = some (.int .i64 (l[j]?.getD Ent0).1) ∧ (eCells n l)[j * 3 + 1]? = some (.int .i64 (l[j]?.getD Ent0).2.1) ∧ (eCells n l)[j * 3 + 2]? = some (.slice (l[j]?.getD Ent0).2.2.1 n (l[j]?.getD Ent0).2.2.2)
 | [], j, h => absurd h (by simp)
 | s :: l, 0, _ => by simp [eCells]
 | s :: l, j + 1, h => by
  have e : eCells n (s :: l) = .int .i64 s.1 :: .int .i64 s.2.1 :: .slice s.2.2.1 n s.2.2.2 :: eCells n l := by simp [eCells]
  have ih := eCells_get n l j (by simpa using h)
  rw [e, show (j + 1) * 3 = j * 3 + 1 + 1 + 1 by omega, show j * 3 + 1 + 1 + 1 + 1 = (j * 3 + 1) + 1 + 1 + 1 by omega, show j * 3 + 1 + 1 + 1 + 2 = (j * 3 + 2) + 1 + 1 + 1 by omega]
  simp only [List.getElem?_cons_succ]
  exact ih
theorem eCells_one (n : Nat) (l : List Ent) : ∀ u ∈ eCells n l, u.oneCell' = true := by
 intro u hu
 obtain ⟨s, _, h⟩ := List.mem_flatMap.1 hu
 simp at h
 rcases h with rfl | rfl | rfl <;> rfl
theorem Own.low {base base' : Nat} {e : TypeId} {size : Nat} {w : World} {A : Option Addr} {n c : Nat} {xs : List Value} (h : Own base e size w A n c xs) (hb : base' ≤ base) : Own base' e size w A n c xs := by
 refine ⟨h.1, ?_⟩
 rcases h.2 with h2 | ⟨g, cap, cur, h2, h3, h4⟩
 ·exact Or.inl h2
 ·exact Or.inr ⟨g, cap, cur, h2, Nat.le_trans hb h3, h4⟩
/-- The entries stand for the first i levels, their parts in rows of the call's own. -/
def EntsO (base n : Nat) (lv : List St.Lv) (w : World) (i : Nat) (es : List Ent) : Prop :=
 es.length = i ∧ ∀ j, j < i → (es[j]?.getD Ent0).1 = (lv[j]?.getD Lv0).1 ∧ (es[j]?.getD Ent0).2.1 = (lv[j]?.getD Lv0).2.1 ∧ Own base 2 1 w (es[j]?.getD Ent0).2.2.1 n (es[j]?.getD Ent0).2.2.2 ((lv[j]?.getD Lv0).2.2.map (Value.int .i64))
theorem Own.levels {base : Nat} {e : TypeId} {w : World} {A : Option Addr} {m n c : Nat} {es : List Ent} {lv : List St.Lv} (h : Own base e 3 w A m c (eCells n es)) (hl : lv.length = m) (he : EntsO base n lv w m es) : LvAt w A m n lv := by
 refine ⟨hl, fun hn => ?_⟩
 have hel := he.1
 have hcl := eCells_len n es
 obtain ⟨g, cap, hv, hb, hlt⟩ := World.ownsRow.form h (by omega)
 simp at hv
 obtain ⟨rfl, rfl⟩ := hv
 refine ⟨g, 0, rfl, hlt, fun j hj => ?_⟩
 obtain ⟨g1, g2, g3⟩ := eCells_get n es j (by omega)
 obtain ⟨e1, e2, e3⟩ := he.2 j hj
 rw [Nat.zero_add, World.ownsRow.cellAt h (j * 3) (by omega), World.ownsRow.cellAt h (j * 3 + 1) (by omega), World.ownsRow.cellAt h (j * 3 + 2) (by omega), g1, g2, g3, e1, e2]
 exact ⟨_, _, ⟨rfl, rfl, rfl⟩, e3.ints⟩
theorem EntsO.below {base n : Nat} {lv : List St.Lv} {w w' : World} {i : Nat} {es : List Ent} (h : EntsO base n lv w i es) (hb : Below w.heap.size w w') : EntsO base n lv w' i es :=
 ⟨h.1, fun j hj => ⟨(h.2 j hj).1, (h.2 j hj).2.1, (h.2 j hj).2.2.keep hb⟩⟩
theorem EntsO.far {base base' n m d : Nat} {lv : List St.Lv} {w w' : World} {i : Nat} {es : List Ent} {B : Option Addr} {e' : TypeId} {size' : Nat} {ys : List Value} (h : EntsO base n lv w i es) (h' : Own base' e' size' w B m d ys) (hne : 2 ≠ e') (hk : Kept w w' B) : EntsO base n lv w' i es :=
 ⟨h.1, fun j hj => ⟨(h.2 j hj).1, (h.2 j hj).2.1, (h.2 j hj).2.2.far h' hne hk⟩⟩
theorem EntsO.snoc {base n : Nat} {lv : List St.Lv} {w : World} {i : Nat} {es : List Ent} {x : Ent} (h : EntsO base n lv w i es) (h1 : x.1 = (lv[i]?.getD Lv0).1) (h2 : x.2.1 = (lv[i]?.getD Lv0).2.1) (h3 : Own base 2 1 w x.2.2.1 n x.2.2.2 ((lv[i]?.getD Lv0).2.2.map (Value.int .i64))) : EntsO base n lv w (i + 1) (es ++ [x]) := by
 have hl := h.1
 refine ⟨by simp [hl], fun j hj => ?_⟩
 by_cases hji : j < i
 ·rw [List.getElem?_append_left (by omega)]
  exact h.2 j hji
 ·obtain rfl : j = i := by omega
  rw [List.getElem?_append_right (by omega), hl, Nat.sub_self]
  exact ⟨h1, h2, h3⟩
theorem info_rlevel : (Tryz.prog.info? 105).map (fun i => (i.zero, i.size, i.bytes)) = some (some (.agg #[.int .i64 0, .int .i64 0, .slice none 0 0]), 3, 40) := by kernel_rfl

set_option maxRecDepth 100000 in
set_option maxHeartbeats 4000000 in
theorem told_any (A : Option Addr) (m n c : Nat) (lv : List St.Lv) (w : World) (h : LvAt w A m n lv) (hm : m ≤ 1000000) (hn : n ≤ 1000000) :
  Calls Tryz.prog 19 #[.slice A m c] w fun e w' => ∃ A1 c1, e = .returned (.slice A1 m c1) ∧ LvAt w' A1 m n lv ∧ Below w.heap.size w w' := by
 have HX := Lib.hid h
 obtain ⟨ii, hii, hz0, hz1, hz2⟩ := info_parts info_rlevel
 have HI := Lib.hid hii
 have HZ0 := Lib.hid hz0
 have HZ1 := Lib.hid hz1
 have HZ2 := Lib.hid hz2
 obtain ⟨ji, hji, jz0, jz1, jz2⟩ := info_parts info_int64
 have JI := Lib.hid hji
 have JZ0 := Lib.hid jz0
 have JZ1 := Lib.hid jz1
 have JZ2 := Lib.hid jz2
 clear h hii hz0 hz1 hz2 hji jz0 jz1 jz2
 go_enter Tryz.func19, Tryz.ntmps19
 go_wp2_with fail
 go_loopw [3, 4] (fun th t wr => ∃ (i : Nat) (Ah : Option Addr) (ch : Nat) (es : List Ent), i ≤ m ∧ t = .int .i64 (i : Int) ∧ th = .slice Ah i ch ∧ Hid (Below w.heap.size w wr ∧ Own w.heap.size 105 3 wr Ah i ch (eCells n es) ∧ EntsO w.heap.size n lv wr i es)) (fun _ t _ => m - (intOf t).toNat)
 case atStart => exact ⟨0, none, 0, [], Nat.zero_le _, rfl, rfl, Below.refl _ _, Own.nil _ _ _ _, rfl, fun j hj => absurd hj (by omega)⟩
 case round =>
  obtain ⟨i, Ah, ch, es, hi, rfl, rfl, hR⟩ := hrel
  by_cases hlt : i < m
  ·obtain ⟨hB, hO, hE⟩ := hR.out
   obtain ⟨b, o, rfl, hb, hc⟩ := HX.out.2 (by omega)
   obtain ⟨A', c', ⟨e0, e1, e2⟩, hp⟩ := hc i hlt
   have i1 : (0 : Int) ≤ (i : Int) := by omega
   have i2 : (i : Int) < (m : Int) := by omega
   have hxe : lv[i]?.getD Lv0 = ((lv[i]?.getD Lv0).1, (lv[i]?.getD Lv0).2.1, (lv[i]?.getD Lv0).2.2) := rfl
   generalize (lv[i]?.getD Lv0).1 = pz at *
   generalize (lv[i]?.getD Lv0).2.1 = qz at *
   generalize (lv[i]?.getD Lv0).2.2 = xs at *
   have HXE := Lib.hid hxe
   have hS : ∀ w', Below w.heap.size w w' → (w'.cell? ⟨b, o + i * 3, none⟩ = some (.int .i64 pz) ∧ w'.cell? ⟨b, o + i * 3 + 1, none⟩ = some (.int .i64 qz) ∧ w'.cell? ⟨b, o + i * 3 + 2, none⟩ = some (.slice A' n c')) ∧ Below w.heap.size w w' := fun w' hk => ⟨⟨(hk.cell (p := ⟨b, _, none⟩) hb).trans e0, (hk.cell (p := ⟨b, _, none⟩) hb).trans e1, (hk.cell (p := ⟨b, _, none⟩) hb).trans e2⟩, hk⟩
   have HS := Lib.hid hS
   have q0 := hB
   have k0 := (Kp.refl wr).alloc (.cells #[] 2)
   have q1 : Below w.heap.size w (wr.alloc (.cells #[] 2)) := hB.trans (Below.mono k0 hB.size)
   have o1 : Own wr.heap.size 2 1 (wr.alloc (.cells #[] 2)) (some ⟨wr.heap.size, 0, none⟩) 0 0 [] := Own.made wr (Nat.le_refl _)
   have HSR := Lib.hid (fun W (hW : Below w.heap.size w W) => (hp.below hW).src)
   have HRR := Lib.hid (And.intro hO hE)
   have him : i ≤ 1000000 := by omega
   clear hc hR hS hxe e0 e1 e2 hp hO hE
   go_wp2_with fail
   go_region_held3 (fun w' => (w'.cell? ⟨b, o + i * 3, none⟩ = some (.int .i64 pz) ∧ w'.cell? ⟨b, o + i * 3 + 1, none⟩ = some (.int .i64 qz) ∧ w'.cell? ⟨b, o + i * 3 + 2, none⟩ = some (.slice A' n c')) ∧ Below w.heap.size w w')
    (first | exact HS.out _ g2 | exact HS.out _ g3 | exact HS.out _ g1 | exact HS.out _ q0.drew | exact HS.out _ q1.drew)
    (first
     | (refine step_append_my (base := wr.heap.size) (e := 2) (size := 1) (bytes := 8) (by rfl) (.tmp 22) (.tmp 27) 62 rfl Tryz.underlying62 JI.out JZ0.out JZ1.out JZ2.out rfl (by decide) (xs := []) (news := xs.map (Value.int .i64)) rfl (by exact o1) rfl (HSR.out _ (by exact q1.drew)) (by simp only [maxLen]; omega) (by omega) (Below.size (w := wr) (B := wr.heap.size) (by exact k0.drew)) ?_
        intro B1 cb1 w1 hO1 hb1 hk1
        have k1 : Kp wr w1 := Below.trans (by exact k0.drew) hb1
        have g1 : Below w.heap.size w w1 := q0.trans (Below.mono k1 q0.size)
        simp only [Nat.zero_add, List.nil_append] at hO1 ⊢
        have a2 : Kp w1 (w1.alloc (.cells #[.int .i64 pz, .int .i64 qz, .slice B1 n cb1] 105)) := (Kp.refl w1).alloc _
        have g2 : Below w.heap.size w (w1.alloc (.cells #[.int .i64 pz, .int .i64 qz, .slice B1 n cb1] 105)) := g1.trans (Below.mono a2 g1.size)
        have o2 := (HRR.out.1.keep k1).keep a2
        have m2 := Blk.new w1 105 #[.int .i64 pz, .int .i64 qz, .slice B1 n cb1]
        clear hb1 hk1)
     | (refine step_append_my (base := w.heap.size) (e := 105) (size := 3) (bytes := 40) (by rfl) (.tmp 11) (.tmp 30) 25 rfl Tryz.underlying25 HI.out HZ0.out HZ1.out HZ2.out rfl (by decide) (xs := eCells n es) (news := [.int .i64 pz, .int .i64 qz, .slice B1 n cb1]) rfl (by exact o2) rfl (by exact Blk.src m2 rfl (eCells_one n [(pz, qz, B1, cb1)])) (by simp only [maxLen]; omega) (by omega) (Below.size (w := w) (B := w.heap.size) (by exact g2)) ?_
        intro B2 cb2 w2 hO2 hb2 hk2
        have g3 : Below w.heap.size w w2 := Below.trans (by exact g2) hb2
        have hk2' : Kept (w1.alloc (.cells #[.int .i64 pz, .int .i64 qz, .slice B1 n cb1] 105)) w2 Ah := hk2
        clear hb2 hk2))
   have hfin : Below w.heap.size w w2 ∧ Own w.heap.size 105 3 w2 B2 (i + 1) cb2 (eCells n (es ++ [(pz, qz, B1, cb1)])) ∧ EntsO w.heap.size n lv w2 (i + 1) (es ++ [(pz, qz, B1, cb1)]) := by
    refine ⟨g3, ?_, ?_⟩
    ·rw [eCells_append]
     exact hO2
    ·have he1 := (HRR.out.2.below k1).snoc (x := (pz, qz, B1, cb1)) (by rw [HXE.out]) (by rw [HXE.out]) (by rw [HXE.out]; exact hO1.low q0.size)
     exact (he1.below a2).far o2 (by decide) hk2'
   have HF := Lib.hid hfin
   clear hfin g3 hO2 hk2' o2 m2 g2 a2 hO1 k1 g1
   go_wp2
   go_roundw
   case rel => exact ⟨i + 1, B2, cb2, _, by omega, by go_num, rfl, HF.out⟩
   case measure => simp [intOf]; omega
  ·obtain rfl : i = m := by omega
   obtain ⟨hB, hO, hE⟩ := hR.out
   have HF := Lib.hid (show LvAt wr Ah i n lv ∧ Below w.heap.size w wr from ⟨hO.levels HX.out.1 hE, hB⟩)
   clear hR hB hO hE
   go_wp2
   go_ret
   exact ⟨Ah, ch, rfl, HF.out⟩

end Go.Proofs.YtjajigkacccdgaaGreat
