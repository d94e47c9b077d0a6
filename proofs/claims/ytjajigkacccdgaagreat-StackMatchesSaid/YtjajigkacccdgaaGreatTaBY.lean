/-
The walk of StackMatches. No statement of the seat is proved here; no conditions beyond those of each theorem.
-/
import Derived.Test.YtjajigkacccdgaaGreatTaBX
namespace Go.Proofs.YtjajigkacccdgaaGreat
set_option linter.unusedVariables false
set_option linter.unusedSimpArgs false
open Go.RowKit
open Wd

theorem info_step24 : (Tryz.prog.info? 107).map (fun i => (i.zero, i.size, i.bytes)) = some (some (.agg #[.int .i64 0, .int .i64 0]), 2, 16) := by kernel_rfl
/-- The curves copied so far. -/
def CuO (base : Nat) (ls : List (List (Int × Int))) (w : World) (i : Nat) (vs : List (Option Addr × Nat × Nat)) : Prop :=
 vs.length = i ∧ ∀ j, j < i → Own base 107 2 w (vs[j]?.getD (none, 0, 0)).1 (vs[j]?.getD (none, 0, 0)).2.1 (vs[j]?.getD (none, 0, 0)).2.2 (stCells (ls[j]?.getD []))
theorem CuO.below {base : Nat} {ls : List (List (Int × Int))} {w w' : World} {i : Nat} {vs : List (Option Addr × Nat × Nat)} (h : CuO base ls w i vs) (hb : Below w.heap.size w w') : CuO base ls w' i vs := ⟨h.1, fun j hj => (h.2 j hj).keep hb⟩
theorem CuO.far {base base' : Nat} {ls : List (List (Int × Int))} {w w' : World} {i m d : Nat} {vs : List (Option Addr × Nat × Nat)} {B : Option Addr} {e' : TypeId} {size' : Nat} {ys : List Value} (h : CuO base ls w i vs) (h' : Own base' e' size' w B m d ys) (hne : 107 ≠ e') (hk : Kept w w' B) : CuO base ls w' i vs := ⟨h.1, fun j hj => (h.2 j hj).far h' hne hk⟩
theorem CuO.snoc {base : Nat} {ls : List (List (Int × Int))} {w : World} {i : Nat} {vs : List (Option Addr × Nat × Nat)} {x : Option Addr × Nat × Nat} (h : CuO base ls w i vs) (hx : Own base 107 2 w x.1 x.2.1 x.2.2 (stCells (ls[i]?.getD []))) : CuO base ls w (i + 1) (vs ++ [x]) := by
 have hl := h.1
 refine ⟨by simp [hl], fun j hj => ?_⟩
 by_cases hji : j < i
 ·rw [List.getElem?_append_left (by omega)]
  exact h.2 j hji
 ·obtain rfl : j = i := by omega
  rw [List.getElem?_append_right (by omega), hl, Nat.sub_self]
  exact hx
theorem St.IsLv.same {up : Bool} {n : Nat} {ls : List (List (Int × Int))} {lv lv' : List St.Lv} (h : (ckC up ls).2 = 0 → St.IsLv up n (St.tri 0 ls) lv ∧ VL up n lv) (h' : (ckC up ls).2 = 0 → St.IsLv up n (St.tri 0 ls) lv' ∧ VL up n lv') (g : (ckC up ls).2 ≠ 0 → lv = []) (g' : (ckC up ls).2 ≠ 0 → lv' = []) : lv = lv' := by
 by_cases hc : (ckC up ls).2 = 0
 ·exact St.IsLv.only (h hc).1 (h' hc).1
 ·rw [g hc, g' hc]

set_option maxRecDepth 100000 in
set_option maxHeartbeats 16000000 in
theorem smatch_any (A : Option Addr) (n c : Nat) (ls : List (List (Int × Int))) (w : World) (h : CsAt w A n ls) (hf : ∀ l ∈ ls, ∀ s ∈ l, Fits s.1 ∧ Fits s.2) :
  Calls Tryz.prog 3 #[.slice A n c] w fun e w' => e = .returned (.bool true) ∧ Below w.heap.size w w' := by
 have HAW := Lib.hid (fun W => awake24_any W)
 have HL := Lib.hid (long24_any A n c ls w h)
 by_cases hlg : longC ls = true
 ·rw [hlg] at HL
  clear h hf hlg
  go_enter Tryz.func3, Tryz.ntmps3
  go_wp2_with fail
  refine HL.out.mono ?_
  rintro e w1 ⟨rfl, hb1⟩
  have HB1 := Lib.hid hb1
  clear hb1 HL
  go_wp2_with fail
  refine (HAW.out _).mono ?_
  rintro e w2 ⟨rfl, hb2⟩
  have HF := Lib.hid (HB1.out.trans (hb2.mono HB1.out.size))
  clear hb2
  go_wp2
  go_ret
  exact ⟨rfl, HF.out⟩
 ·rw [Bool.not_eq_true] at hlg
  obtain ⟨l40, l20⟩ := longC_no hlg
  have hs := longC_small hlg
  have hn40 : n ≤ 40 := by have := h.1; omega
  rw [hlg] at HL
  have R1 := Lib.hid (fun W (hW : Below w.heap.size w W) => rmerge_offers A n c ls W (h.below hW))
  have R2 := Lib.hid (fun W (hW : Below w.heap.size w W) => rmerge_bids A n c ls W (h.below hW))
  obtain ⟨ii, hii, hz0, hz1, hz2⟩ := info_parts info_step24
  have HI := Lib.hid hii
  have HZ0 := Lib.hid hz0
  have HZ1 := Lib.hid hz1
  have HZ2 := Lib.hid hz2
  obtain ⟨ji, hji, jz0, jz1, jz2⟩ := info_parts info_steps
  have JI := Lib.hid hji
  have JZ0 := Lib.hid jz0
  have JZ1 := Lib.hid jz1
  have JZ2 := Lib.hid jz2
  have HX := Lib.hid h
  have HS := Lib.hid hs
  have H20 := Lib.hid l20
  have HFT := Lib.hid hf
  clear h hf hs l20 l40 hlg hii hz0 hz1 hz2 hji jz0 jz1 jz2
  go_enter Tryz.func3, Tryz.ntmps3
  go_wp2_with fail
  refine HL.out.mono ?_
  rintro e w1 ⟨rfl, hb1⟩
  have HB1 := Lib.hid hb1
  clear hb1 HL
  go_wp2_with fail
  refine (R1.out w1 HB1.out).mono ?_
  rintro e w2 ⟨A1, m1, c1, lvA, rfl, g1, g2, g3, hb2⟩
  have HB2 := Lib.hid (HB1.out.trans (hb2.mono HB1.out.size))
  have HA := Lib.hid (And.intro g1 (And.intro g2 g3))
  clear g1 g2 g3 hb2 HB1 R1
  go_wp2_with fail
  refine (R2.out w2 HB2.out).mono ?_
  rintro e V ⟨A2, m2, c2, lvB, rfl, g1, g2, g3, hb3⟩
  have HV := Lib.hid (HB2.out.trans (hb3.mono HB2.out.size))
  have HA := Lib.hid (And.intro (HA.out.1.below hb3) HA.out.2)
  have HBB := Lib.hid (And.intro g1 (And.intro g2 g3))
  clear g1 g2 g3 hb3 HB2 R2
  have p1 : ((ckC true ls).1 != (ckC true ls).1) = false := by simp
  have p2 : ((ckC false ls).1 != (ckC false ls).1) = false := by simp
  have p3 : ((ckC true ls).2 != (ckC true ls).2) = false := by simp
  have p4 : ((ckC false ls).2 != (ckC false ls).2) = false := by simp
  go_wp2_with fail
  go_loopw [9] (fun t wr => ∃ r : Nat, r ≤ 2 ∧ t = .int .i64 r ∧ Hid (Kp V wr)) (fun t _ => 2 - (intOf t).toNat)
  case atStart => exact ⟨0, Nat.zero_le _, rfl, Kp.refl V⟩
  case round =>
   obtain ⟨r, hr2, rfl, hR⟩ := hrel
   obtain ⟨wv, rfl⟩ : ∃ v, v = wr := ⟨_, rfl⟩
   by_cases hlt : r < 2
   ·have r1 : (0 : Int) ≤ (r : Int) := by omega
    have r2 : (r : Int) < 2 := by omega
    have HR := Lib.hid hR.out
    have HW := Lib.hid (HV.out.trans (Below.mono hR.out HV.out.size))
    clear hR
    go_wp2_with fail
    go_loopw [10, 11] (fun th ti wr2 => ∃ (i : Nat) (Ah : Option Addr) (ch : Nat) (vs : List (Option Addr × Nat × Nat)), i ≤ n ∧ ti = .int .i64 i ∧ th = .slice Ah i ch ∧ Hid (Kp wv wr2 ∧ Own wv.heap.size 29 1 wr2 Ah i ch (vs.map slv) ∧ CuO wv.heap.size ls wr2 i vs ∧ ∀ j, j < i → (vs[j]?.getD (none, 0, 0)).2.1 = (ls[j]?.getD []).length)) (fun _ ti _ => n - (intOf ti).toNat)
    case atStart => exact ⟨0, none, 0, [], Nat.zero_le _, rfl, rfl, Kp.refl wv, Own.nil _ _ _ _, ⟨rfl, fun j hj => absurd hj (by omega)⟩, fun j hj => absurd hj (by omega)⟩
    case round =>
     obtain ⟨i, Ah, ch, vs, hi, rfl, rfl, hY⟩ := hrel
     obtain ⟨wu, rfl⟩ : ∃ v, v = wr := ⟨_, rfl⟩
     by_cases hlti : i < n
     ·obtain ⟨b, o, rfl, hb, hcell⟩ := HX.out.2 (by omega)
      obtain ⟨A', n', c', hci, hsi⟩ := hcell i hlti
      have HU := Lib.hid (HW.out.trans (Below.mono hY.out.1 HW.out.size))
      have hcl := (HU.out.cell (p := ⟨b, o + i, none⟩) hb).trans hci
      have hn20 : n' ≤ 20 := by
       rw [← hsi.1]
       exact H20.out _ (getD_mem (d := []) (show i < ls.length by rw [HX.out.1]; exact hlti))
      have hsr := (hsi.below HU.out).src
      have HLN := Lib.hid hsi.1
      have HYY := Lib.hid hY.out
      have hzz := Below.size hY.out.1
      have i1 : (0 : Int) ≤ (i : Int) := by omega
      have i2 : (i : Int) < (n : Int) := by omega
      have a0 := (Kp.refl wu).alloc (.cells #[] 107)
      have o1 : Own wu.heap.size 107 2 (wu.alloc (.cells #[] 107)) (some ⟨wu.heap.size, 0, none⟩) 0 0 [] := Own.made wu (Nat.le_refl _)
      have hsr1 := hsr.below a0
      have hcl2 := (Below.cell a0 (p := ⟨b, o + i, none⟩) (Nat.lt_of_lt_of_le hb HU.out.size)).trans hcl
      have hz1 : wu.heap.size ≤ (wu.alloc (.cells #[] 107)).heap.size := by simp
      clear hcell hci hsi hY hsr
      go_wp2_with (first
       | (at_builtin; refine wpList_append_my rfl (base := wu.heap.size) (e := 107) (size := 2) (bytes := 16) (.tmp 45) (.tmp 49) 29 rfl Tryz.underlying29 HI.out HZ0.out HZ1.out HZ2.out rfl (by decide) (xs := []) (news := stCells (ls[i]?.getD [])) rfl (by exact o1) rfl (by exact hsr1) (by simp only [maxLen]; omega) (by omega) (by exact hz1) ?_
          intro B1 cb1 w3 hO1 hb3 hk3
          simp only [Nat.zero_add, List.nil_append] at hO1 ⊢
          have k1 : Kp wu w3 := Below.trans a0 hb3
          have a2 : Kp w3 (w3.alloc (.cells #[.slice B1 n' cb1] 29)) := (Kp.refl w3).alloc _
          have o2 := (HYY.out.2.1.keep k1).keep a2
          have m2 := Blk.new w3 29 #[.slice B1 n' cb1]
          have hz2 : wv.heap.size ≤ (w3.alloc (.cells #[.slice B1 n' cb1] 29)).heap.size := by have := Below.size k1; simp; omega
          clear hb3 hk3)
       | (at_builtin; refine wpList_append_my rfl (base := wv.heap.size) (e := 29) (size := 1) (bytes := 24) (.tmp 44) (.tmp 51) 22 rfl Tryz.underlying22 JI.out JZ0.out JZ1.out JZ2.out rfl (by decide) (xs := vs.map slv) (news := [.slice B1 n' cb1]) rfl (by exact o2) rfl (by exact Blk.src m2 rfl (slv_one (B1, n', cb1))) (by simp only [maxLen]; omega) (by omega) (by exact hz2) ?_
          intro B2 cb2 w4 hO2 hb4 hk4)
       | fail)
      have hfin : Kp wv w4 ∧ Own wv.heap.size 29 1 w4 B2 (i + 1) cb2 ((vs ++ [(B1, n', cb1)]).map slv) ∧ CuO wv.heap.size ls w4 (i + 1) (vs ++ [(B1, n', cb1)]) ∧ ∀ j, j < i + 1 → ((vs ++ [(B1, n', cb1)])[j]?.getD (none, 0, 0)).2.1 = (ls[j]?.getD []).length := by
       refine ⟨Below.trans (Kp.trans (Kp.trans HYY.out.1 k1) a2) hb4, by rw [List.map_append]; exact hO2, ?_, fun j hj => ?_⟩
       ·have he1 := (HYY.out.2.2.1.below k1).snoc (x := (B1, n', cb1)) (hO1.low hzz)
        exact (he1.below a2).far o2 (by decide) hk4
       ·have hl := HYY.out.2.2.1.1
        by_cases hji : j < i
        ·rw [List.getElem?_append_left (by omega)]
         exact HYY.out.2.2.2 j hji
        ·obtain rfl : j = i := by omega
         rw [List.getElem?_append_right (by omega), hl, Nat.sub_self]
         exact HLN.out.symm
      have HF := Lib.hid hfin
      clear hfin hO1 hO2 hb4 hk4 o2 m2 a2 k1 HYY HU hcl hcl2
      go_wp2
      go_roundw
      case rel => exact ⟨i + 1, B2, cb2, _, by omega, by first | rfl | go_num, rfl, HF.out⟩
      case measure => simp [intOf]; omega
     ·obtain rfl : n = i := by omega
      have hcs : CsAt wu Ah n ls := hY.out.2.1.css HX.out.1 fun j hj => by
       have h1 := (hY.out.2.2.1.2 j hj).steps (HFT.out _ (getD_mem (d := []) (show j < ls.length by rw [HX.out.1]; exact hj)))
       exact h1
      have HC := Lib.hid hcs
      have HK := Lib.hid hY.out.1
      have HM1 := Lib.hid (merge_offers_y Ah n ch ls wu hcs HS.out)
      have HM2 := Lib.hid (fun W (hW : Kp wu W) => merge_bids_y Ah n ch ls W (hcs.below hW) HS.out)
      clear hY hcs hlti
      go_wp2_with fail
      refine HM1.out.mono ?_
      rintro e w3 ⟨As, ms, cs, lvS, rfl, g1, g48, g2, g3, g4, hb3⟩
      have HS1 := Lib.hid (And.intro g1 (And.intro g48 (And.intro g2 (And.intro g3 g4))))
      have hk3 : Kp wu w3 := hb3
      have T2 := Lib.hid (HM2.out w3 hk3)
      have HK3 := Lib.hid hk3
      clear g1 g48 g2 g3 g4 hb3 hk3 HM1 HM2
      go_wp2_with fail
      refine T2.out.mono ?_
      rintro e w4 ⟨At, mt, ct, lvT, rfl, g1, g48, g2, g3, g4, hb4⟩
      have hk4 : Kp w3 w4 := hb4
      have HS2 := Lib.hid (And.intro g1 (And.intro g48 (And.intro g2 (And.intro g3 g4))))
      have HK4 := Lib.hid hk4
      obtain rfl : lvS = lvA := St.IsLv.same HS1.out.2.2.1 HA.out.2.1 HS1.out.2.2.2.1 HA.out.2.2
      obtain rfl : lvT = lvB := St.IsLv.same g2 HBB.out.2.1 g3 HBB.out.2.2
      obtain rfl : ms = m1 := by have h1 := HS1.out.1.1; have h2 := HA.out.1.1; omega
      obtain rfl : mt = m2 := by have h1 := g1.1; have h2 := HBB.out.1.1; omega
      have hkV4 : Kp V w4 := Kp.trans (Kp.trans (Kp.trans HR.out HK.out) HK3.out) hk4
      have HTS := Lib.hid (told_any As ms n cs lvS w4 (HS1.out.1.below hk4) (by have := HS1.out.2.1; omega) (by omega))
      have HTT := Lib.hid (fun W (hW : Kp w4 W) => told_any At mt n ct lvT W (g1.below hW) (by omega) (by omega))
      have HSA := Lib.hid (fun W (hW : Kp w4 W) (B : Option Addr) (d : Nat) (hB : LvAt W B ms n lvS) => same24_yes B A1 ms n d c1 lvS W hB (HA.out.1.below (Kp.trans hkV4 hW)) (by have := HS1.out.2.1; omega) (by omega))
      have HSB := Lib.hid (fun W (hW : Kp w4 W) (B : Option Addr) (d : Nat) (hB : LvAt W B mt n lvT) => same24_yes B A2 mt n d c2 lvT W hB (HBB.out.1.below (Kp.trans hkV4 hW)) (by omega) (by omega))
      clear g1 g48 g2 g3 g4 hb4 hk4 hkV4 T2
      go_wp2_with fail
      refine HTS.out.mono ?_
      rintro e w5 ⟨A5, c5, rfl, g1, hb5⟩
      have hk5 : Kp w4 w5 := hb5
      have T1 := Lib.hid (HSA.out w5 hk5 A5 c5 g1)
      clear g1 hb5 HTS HSA
      go_wp2_with fail
      refine T1.out.mono ?_
      rintro e w6 ⟨rfl, hb6⟩
      have hk6 : Kp w4 w6 := Kp.trans hk5 hb6
      have T3 := Lib.hid (HTT.out w6 hk6)
      clear hk5 hb6 T1 HTT
      go_wp2_with fail
      refine T3.out.mono ?_
      rintro e w7 ⟨A7, c7, rfl, g1, hb7⟩
      have hk7 : Kp w4 w7 := Kp.trans hk6 hb7
      have T4 := Lib.hid (HSB.out w7 hk7 A7 c7 g1)
      clear g1 hb7 T3 HSB hk6
      go_wp2_with fail
      refine T4.out.mono ?_
      rintro e w8 ⟨rfl, hb8⟩
      have HK8 := Lib.hid (Kp.trans hk7 hb8)
      clear hk7 hb8 T4
      go_wp2_with fail
      go_loopw [18] (fun t wr => ∃ i : Nat, i ≤ n ∧ t = .int .i64 i ∧ Hid (Kp w8 wr)) (fun t _ => n - (intOf t).toNat)
      case atStart => exact ⟨0, Nat.zero_le _, rfl, Kp.refl w8⟩
      case round =>
       obtain ⟨i, hi, rfl, hZ⟩ := hrel
       obtain ⟨wz, rfl⟩ : ∃ v, v = wr := ⟨_, rfl⟩
       have HKZ := Lib.hid (Kp.trans HK4.out (Kp.trans HK8.out hZ.out))
       have HKU := Lib.hid (Kp.trans HK3.out HKZ.out)
       have HWZ := Lib.hid (HW.out.trans (Below.mono (Kp.trans HK.out HKU.out) HW.out.size))
       by_cases hl3 : i < n
       ·obtain ⟨b2, o2, rfl, hb2, hc2⟩ := (HC.out.below HKU.out).2 (by omega)
        obtain ⟨A', n', c', hci, hsi⟩ := hc2 i hl3
        obtain ⟨b3, o3, rfl, hb3, hc3⟩ := (HX.out.below HWZ.out).2 (by omega)
        obtain ⟨A'', n'', c'', hcj, hsj⟩ := hc3 i hl3
        obtain rfl : n' = n'' := hsi.1.symm.trans hsj.1
        have hn20 : n' ≤ 20 := by
         rw [← hsi.1]
         exact H20.out _ (getD_mem (d := []) (show i < ls.length by rw [HX.out.1]; exact hl3))
        have TSM := Lib.hid (fun W (hW : Kp wz W) => same23_yes A' A'' n' c' c'' (ls[i]?.getD []) W (hsi.below hW) (hsj.below hW) (by omega))
        have HS20 := Lib.hid (show ∀ w', Kp wz w' → (w'.cell? ⟨b2, o2 + i, none⟩ = some (.slice A' n' c') ∧ w'.cell? ⟨b3, o3 + i, none⟩ = some (.slice A'' n' c'')) ∧ Kp wz w' from fun w' hk => ⟨⟨(Below.cell hk (p := ⟨b2, _, none⟩) hb2).trans hci, (Below.cell hk (p := ⟨b3, _, none⟩) hb3).trans hcj⟩, hk⟩)
        have q0 := Kp.refl wz
        have HZ := Lib.hid hZ.out
        have i1 : (0 : Int) ≤ (i : Int) := by omega
        have i2 : (i : Int) < (n : Int) := by omega
        clear hc2 hc3 hci hcj hsi hsj hZ hn20
        go_wp2_with fail
        go_region_held3 (fun w' => (w'.cell? ⟨b2, o2 + i, none⟩ = some (.slice A' n' c') ∧ w'.cell? ⟨b3, o3 + i, none⟩ = some (.slice A'' n' c'')) ∧ Kp wz w')
         (first | (with_reducible refine HS20.out _ ?_; with_reducible assumption) | (with_reducible refine HS20.out _ (Kp.drew ?_); with_reducible assumption) | (with_reducible refine' HS20.out _ (Kp.drew (And.right ?_)); rotate_left; with_reducible assumption))
         (first
          | (go_at_call 20; have hk := And.right ‹_ ∧ Kp wz _›; refine (TSM.out _ hk).mono ?_; rintro e wy ⟨rfl, hby⟩; have hky : Kp wz wy := Kp.trans hk hby; clear hk hby))
        have HF := Lib.hid (Kp.trans HZ.out hky)
        clear hky HS20 TSM HKZ HKU HWZ HZ q0
        go_wp2
        go_roundw
        case rel => exact ⟨i + 1, by omega, by first | rfl | go_num, HF.out⟩
        case measure => simp [intOf]; omega
       ·obtain rfl : n = i := by omega
        have hS1 : ms ≠ 0 → ∃ g, As = some ⟨g, 0, none⟩ ∧ wu.heap.size ≤ g ∧ g < w3.heap.size ∧ LvF wu.heap.size w3.heap.size wz g ms := fun h0 => by
         obtain ⟨g, e1, e2, e3⟩ := HS1.out.2.2.2.2 h0
         exact ⟨g, e1, e2, e3.1, e3.below HKZ.out⟩
        have T9 := Lib.hid (spoil24_o wu.heap.size w3.heap.size As ms cs wz hS1 (by have := HS1.out.2.1; omega))
        have hm48 := HS2.out.2.1
        have hk4z : Kp w4 wz := Kp.trans HK8.out hZ.out
        have T10 := Lib.hid (fun W (hW : Sx wu.heap.size w3.heap.size wz W) => spoil24_o w3.heap.size w4.heap.size At mt ct W (fun h0 => by
         obtain ⟨g, e1, e2, e3⟩ := HS2.out.2.2.2.2 h0
         exact ⟨g, e1, e2, e3.1, (e3.below hk4z).sx hW (Nat.le_refl _) e2⟩) (by omega))
        have HKV := Lib.hid (show Kp V wz from Kp.trans (Kp.trans HR.out HK.out) HKU.out)
        have hzu : V.heap.size ≤ wu.heap.size := Below.size (Kp.trans HR.out HK.out)
        have hz3 : wu.heap.size ≤ w3.heap.size := Below.size HK3.out
        clear hS1 hZ hk4z HKU HWZ HKZ
        go_wp2_with fail
        refine T9.out.mono ?_
        rintro e w10 ⟨rfl, hx1⟩
        have T11 := Lib.hid (T10.out w10 hx1)
        have HX1 := Lib.hid hx1
        clear hx1 T9 T10
        go_wp2_with fail
        refine T11.out.mono ?_
        rintro e w11 ⟨rfl, hx2⟩
        have HF := Lib.hid (show Kp V w11 from Below.trans (Below.trans HKV.out (HX1.out.1.mono hzu)) (hx2.1.mono (Nat.le_trans hzu hz3)))
        clear hx2 HX1 T11 HKV
        go_wp2
        go_roundw
        case rel => exact ⟨r + 1, by omega, by first | rfl | go_num, HF.out⟩
        case measure => simp [intOf]; omega
   ·obtain rfl : r = 2 := by omega
    have HK := Lib.hid (HV.out.trans (Below.mono hR.out HV.out.size))
    clear hR
    go_wp2_with fail
    refine (HAW.out _).mono ?_
    rintro e w2 ⟨rfl, hb2⟩
    have HF := Lib.hid (HK.out.trans (hb2.mono HK.out.size))
    clear hb2
    go_wp2
    go_ret
    exact ⟨rfl, HF.out⟩

end Go.Proofs.YtjajigkacccdgaaGreat
