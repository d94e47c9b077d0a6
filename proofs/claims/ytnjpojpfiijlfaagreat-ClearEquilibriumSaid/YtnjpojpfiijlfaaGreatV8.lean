/-
The walk of StackCompleteness. No statement of the seat is proved here; no conditions beyond those of each theorem.
-/
import Derived.Test.YtnjpojpfiijlfaaGreatV5
import Derived.Test.YtnjpojpfiijlfaaGreatY2
import Derived.Test.YtnjpojpfiijlfaaGreatQ15
import Derived.Test.YtnjpojpfiijlfaaGreatGG
namespace Go.Proofs.YtnjpojpfiijlfaaGreat
set_option linter.unusedVariables false
set_option linter.unusedSimpArgs false
open Go.RowKit
open Wd
attribute [local go_sem ↓] Go.wp_at_zero Go.wp_at_succ

theorem curveE_of {up : Bool} {l : List (Int × Int)} (h : chk up l = 0) : sumS l = qsum l := by
  unfold sumS curveE
  cases up
  · rw [if_pos h]; rfl
  · by_cases h2 : chk false l = 0
    · rw [if_pos h2]; rfl
    · rw [if_neg h2, h]; rfl
theorem share_all (up : Bool) (A : Option Addr) (m n c : Nat) (lv : List St.Lv) (z : Int) (aA aA' : Option Addr) (ak ac ak' ac' : Nat) (w : World) (h : LvAt w A m n lv) (hv : VL up n lv) (hq : WQ w (z : Rat) aA ak ac aA' ak' ac') (h0 : 0 ≤ z) (h1 : z ≤ totI lv) (hmn : n ≠ 0 → m ≠ 0) :
    Calls Tryz.prog 39 #[.slice A m c, .agg #[.bool (decide (((z : Int) : Rat).num < 0)), .slice aA ak ac, .bool false, .slice aA' ak' ac']] w fun e w' => ∃ B c', e = .returned (.tuple #[.slice B n c', .int .i64 0]) ∧ (n ≠ 0 → ∃ g, B = some ⟨g, 0, none⟩ ∧ QRow w' g n (castR (shAll lv n z m))) ∧ Below w.heap.size w w' := by
  by_cases hm : m = 0
  · subst hm
    have hn : n = 0 := by
      by_cases h9 : n = 0
      · exact h9
      · exact absurd rfl (hmn h9)
    have hlv : lv = [] := List.eq_nil_of_length_eq_zero h.1
    subst hlv
    obtain rfl : z = 0 := by simp only [totI, List.map_nil, sumI] at h1; omega
    refine (share_nil up A n c aA aA' ak ac ak' ac' w hv.n16 hq).mono ?_
    rintro e w' ⟨rfl, hb⟩
    exact ⟨none, 0, by rw [hn], fun h9 => absurd hn h9, hb⟩
  · refine (share_ok up A m n c lv z aA aA' ak ac ak' ac' w h hv hq h0 h1 hm).mono ?_
    rintro e w' ⟨g, rfl, h2, h3, hb⟩
    exact ⟨_, _, rfl, fun _ => ⟨g, rfl, h2⟩, hb⟩
theorem wq_zero (w : World) : WQ w ((0 : Int) : Rat) none 0 0 none 0 0 := ⟨Nat.le_refl _, Nat.le_refl _, by rw [show ((0 : Int) : Rat).num.natAbs = 0 from rfl, digs_zero]; exact Wat.nil, Wat.nil⟩
theorem neg_zero : decide (((0 : Int) : Rat).num < 0) = false := by decide

set_option maxRecDepth 100000 in
set_option maxHeartbeats 4000000 in
theorem scomp_short (A : Option Addr) (n c : Nat) (ls : List (List (Int × Int))) (bids : Bool) (w : World) (h : CsAt w A n ls) (hx : longC ls = true) :
    Calls Tryz.prog 8 #[.slice A n c, .bool bids] w fun e w' => e = .returned (.bool true) ∧ Below w.heap.size w w' := by
  have HAW := Lib.hid (fun W => awake24_any W)
  have HL := Lib.hid (long24_any A n c ls w h)
  rw [hx] at HL
  clear h hx
  go_enter Tryz.func8, Tryz.ntmps8
  go_wp2_with fail
  refine HL.out.mono ?_
  rintro e w1 ⟨rfl, hb1⟩
  have HB1 := Lib.hid hb1
  clear hb1
  go_wp2_with fail
  refine (HAW.out w1).mono ?_
  rintro e w2 ⟨rfl, hb2⟩
  have HB2 := Lib.hid (HB1.out.trans (hb2.mono HB1.out.size))
  clear hb2
  go_wp2
  go_ret
  exact ⟨rfl, HB2.out⟩

theorem sumq_snoc {ls : List (List (Int × Int))} {k : Nat} (hk : k < ls.length) : sumI ((ls.take (k + 1)).map qsum) = sumI ((ls.take k).map qsum) + qsum (ls[k]?.getD []) := by
  have e : ls.take (k + 1) = ls.take k ++ [ls[k]?.getD []] := by rw [List.take_add_one, List.getElem?_eq_getElem hk]; rfl
  rw [e, List.map_append]
  exact sumI_snoc _ _
theorem sumq_bd : ∀ (ls : List (List (Int × Int))), (∀ l ∈ ls, 0 ≤ qsum l ∧ qsum l ≤ 3000000) → 0 ≤ sumI (ls.map qsum) ∧ sumI (ls.map qsum) ≤ 3000000 * (ls.length : Int)
  | [], _ => by simp [sumI]
  | l :: ls, h => by
    have h1 := h l (List.mem_cons_self ..)
    have h2 := sumq_bd ls fun y hy => h y (List.mem_cons_of_mem _ hy)
    rw [List.map_cons, sumI, List.length_cons]
    omega

set_option maxRecDepth 100000 in
set_option maxHeartbeats 8000000 in
theorem scomp_main (A : Option Addr) (n c : Nat) (ls : List (List (Int × Int))) (bids : Bool) (w : World) (h : CsAt w A n ls) (hlg : longC ls = false) :
    Calls Tryz.prog 8 #[.slice A n c, .bool bids] w fun e w' => e = .returned (.bool true) ∧ Below w.heap.size w w' := by
  have HAW := Lib.hid (fun W => awake24_any W)
  have HL := Lib.hid (long24_any A n c ls w h)
  rw [hlg] at HL
  have HSM := Lib.hid (longC_small hlg)
  have HLN := Lib.hid h.1
  have HCS := Lib.hid h
  clear h hlg
  go_enter Tryz.func8, Tryz.ntmps8
  go_wp2_with fail
  refine HL.out.mono ?_
  rintro e w1 ⟨rfl, hb1⟩
  have HB1 := Lib.hid hb1
  clear hb1 HL
  go_wp2_with fail
  refine (HAW.out w1).mono ?_
  rintro e w2 ⟨rfl, hb2⟩
  have HB2 := Lib.hid (HB1.out.trans (hb2.mono HB1.out.size))
  clear hb2 HAW HB1
  have HS1 := Lib.hid (stacked_any A n c ls bids w2 (HCS.out.below HB2.out) HSM.out)
  go_wp2_with fail
  refine HS1.out.mono ?_
  rintro e u1 ⟨A1, m1, cap1, lv, rfl, hL1, hV1, hZ1, hb4⟩
  have HB4 := Lib.hid (HB2.out.trans (hb4.mono HB2.out.size))
  have HA1 := Lib.hid hL1
  clear hL1 hZ1 hb4 HS1 HB2
  generalize (!bids) = up at *
  by_cases hx : (ckC up ls).2 = 0
  · have HV := Lib.hid (hV1 hx)
    have HCK := Lib.hid (ckC_iff.1 hx)
    rw [hx]
    clear hV1 hx
    have hn16 : n ≤ 16 := by have := HCK.out.1; have := HLN.out; omega
    have HQS := Lib.hid (fun l (hl : l ∈ ls) => show 0 ≤ qsum l ∧ qsum l ≤ 3000000 by
      have h1 := HCK.out.2 l hl
      have h2 := chk_ok h1
      have h3 := qsum_bd l h2.2.2.2
      have h4 := h2.2.1
      omega)
    have HTOT := Lib.hid (show totI lv = sumI (ls.map qsum) by rw [St.tot_is HV.out.1, St.sumT_tri])
    have hmn : n ≠ 0 → m1 ≠ 0 := fun h0 h9 => by
      have h1 := HA1.out.1
      rw [h9] at h1
      have h2 : lv = [] := List.eq_nil_of_length_eq_zero h1
      have h3 := getD_mem (d := ([] : List (Int × Int))) (show 0 < ls.length by have := HLN.out; omega)
      generalize ls[0]?.getD [] = l0 at *
      have h4 := (chk_ok (HCK.out.2 _ h3)).1
      have h5 := getD_mem (d := ((0, 0) : Int × Int)) (show 0 < l0.length by omega)
      have h6 := (HV.out.1.2.1 _).2 (St.tri_price.2 ⟨_, h3, _, h5, rfl⟩)
      rw [h2] at h6
      simp at h6
    go_wp2_with fail
    go_loopw [7, 8] (fun ts t wr => ∃ k : Nat, k ≤ n ∧ t = .int .i64 k ∧ ts = .int .i64 (sumI ((ls.take k).map qsum)) ∧ Hid (Below u1.heap.size u1 wr)) (fun _ t _ => n - (intOf t).toNat)
    case atStart => exact ⟨0, Nat.zero_le _, rfl, rfl, Below.refl _ _⟩
    case round =>
      obtain ⟨k, hk, rfl, rfl, hB⟩ := hrel
      by_cases hlt : k < n
      · obtain ⟨b, o, rfl, hb, hc⟩ := HCS.out.2 (by omega)
        obtain ⟨A', n', c', hcell, hst⟩ := hc k hlt
        have hw := HB4.out.trans (hB.out.mono HB4.out.size)
        have hcell := (hw.cell (p := ⟨b, o + k, none⟩) hb).trans hcell
        have hsn := sumq_snoc (ls := ls) (k := k) (by rw [HLN.out]; exact hlt)
        have hmem := getD_mem (d := ([] : List (Int × Int))) (show k < ls.length by rw [HLN.out]; exact hlt)
        have hq := HQS.out _ hmem
        have hbd := sumq_bd (ls.take k) fun l hl => HQS.out l (List.mem_of_mem_take hl)
        have hl2 := List.length_take_le k ls
        have hSU := sum_any A' n' c' (ls[k]?.getD []) wr (hst.below hw) (by rw [← hst.1]; exact HSM.out _ hmem)
        rw [curveE_of (HCK.out.2 _ hmem)] at hSU
        generalize qsum (ls[k]?.getD []) = q at *
        generalize sumI ((ls.take k).map qsum) = s at *
        have k1 : (0 : Int) ≤ (k : Int) := by omega
        have k2 : (k : Int) < (n : Int) := by omega
        have xw : IntKind.i64.wrap (s + q) = s + q := IntWalk.i64_in _ (by omega)
        have HSN := Lib.hid hsn
        have HSU := Lib.hid hSU
        clear hsn hc hst hw hmem hq hbd hl2 hSU
        go_wp2_with fail
        refine HSU.out.mono ?_
        rintro e w9 ⟨rfl, hb9⟩
        have HB9 := Lib.hid (hB.out.trans (hb9.mono hB.out.size))
        clear hb9
        go_wp2
        go_roundw
        case rel => exact ⟨k + 1, by omega, by go_num, by rw [HSN.out], HB9.out⟩
        case measure => simp [intOf]; omega
      · obtain rfl : k = n := by omega
        rw [List.take_of_length_le (by rw [HLN.out]; exact Nat.le_refl _), ← HTOT.out]
        have htb := tot_bd lv HV.out.2.qty
        have hlv48 := HV.out.2.len
        have hl9 := HLN.out
        have HXQ := Lib.hid (fun j (hj : j < k) => show (castR (shAll lv k (totI lv) m1))[j]?.getD 0 = ((qsum (ls[j]?.getD []) : Int) : Rat) by
          subst hl9
          rw [castR_get, ← HA1.out.1, St.share_tot HV.out.1 HV.out.2 hj])
        have HYQ := Lib.hid (fun j (hj : j < k) => show (castR (shAll lv k 0 m1))[j]?.getD 0 = ((0 : Int) : Rat) by
          rw [castR_get, ← HA1.out.1, shAll_zero HV.out.2 _ (Nat.le_refl _) j hj])
        have HSX := Lib.hid (fun W A5 A6 k5 c5 k6 c6 (hW : Below u1.heap.size u1 W) (hq : WQ W ((totI lv : Int) : Rat) A5 k5 c5 A6 k6 c6) => share_all up A1 m1 k cap1 lv (totI lv) A5 A6 k5 c5 k6 c6 W (HA1.out.below hW) HV.out.2 hq htb.1 (Int.le_refl _) hmn)
        have hsy := fun W (hW : Below u1.heap.size u1 W) => share_all up A1 m1 k cap1 lv 0 none none 0 0 0 0 W (HA1.out.below hW) HV.out.2 (wq_zero W) (Int.le_refl _) htb.1 hmn
        rw [neg_zero] at hsy
        have HSY := Lib.hid hsy
        have HCKS := Lib.hid (fun W (hW : Below u1.heap.size u1 W) => check_ok up A1 m1 k cap1 lv W (HA1.out.below hW) HV.out.2)
        have HTT := Lib.hid (fun W (hW : Below u1.heap.size u1 W) => total_ok up A1 m1 k cap1 lv W (HA1.out.below hW) HV.out.2)
        have HSI := Lib.hid (fun j (hj : j < k) => show sumS (ls[j]?.getD []) = qsum (ls[j]?.getD []) ∧ 0 ≤ qsum (ls[j]?.getD []) ∧ qsum (ls[j]?.getD []) ≤ 3000000 by
          have hmem := getD_mem (d := ([] : List (Int × Int))) (show j < ls.length by omega)
          exact ⟨curveE_of (HCK.out.2 _ hmem), HQS.out _ hmem⟩)
        generalize shAll lv k (totI lv) m1 = xr at *
        generalize shAll lv k 0 m1 = yr at *
        have hT0 := htb.1
        have hT1 : totI lv ≤ 1000000000 := by omega
        generalize totI lv = tot at *
        clear htb hlv48 hsy hl9 HV HTOT HA1 hmn HQS HCK
        go_wp2_with fail
        refine (qfromInt64_any tot wr (by omega) (by omega)).mono ?_
        rintro e x1 ⟨A5, k5, c5, A6, k6, c6, rfl, hk5, hk6, hW5, hW6, -, -, hb1⟩
        have HX1 := Lib.hid (hB.out.trans (hb1.mono hB.out.size))
        have HC := Lib.hid (HSX.out x1 A5 A6 k5 c5 k6 c6 HX1.out ⟨hk5, hk6, hW5, hW6⟩)
        clear hk5 hk6 hW5 hW6 hb1 hB HSX
        generalize (tot : Rat) = tq at *
        go_wp2_with fail
        refine HC.out.mono ?_
        rintro e x2 ⟨B1, d1, rfl, hr1, hb2⟩
        have HX2 := Lib.hid (HX1.out.trans (hb2.mono HX1.out.size))
        have HR1 := Lib.hid hr1
        clear hr1 hb2 HC HX1
        go_wp2_with fail
        refine (HSY.out x2 HX2.out).mono ?_
        rintro e x3 ⟨B2, d2, rfl, hr2, hb3⟩
        have HX3 := Lib.hid (HX2.out.trans (hb3.mono HX2.out.size))
        have HR2 := Lib.hid hr2
        have HR1 := Lib.hid (fun (h0 : k ≠ 0) => (by obtain ⟨g, e, h⟩ := HR1.out h0; exact ⟨g, e, h.below hb3⟩ : ∃ g, B1 = some ⟨g, 0, none⟩ ∧ QRow x3 g k (castR xr)))
        clear hr2 hb3 HSY HX2
        go_wp2_with fail
        refine (HCKS.out x3 HX3.out).mono ?_
        rintro e x4 ⟨rfl, hb4⟩
        have HX4 := Lib.hid hb4
        clear hb4
        go_wp2_with fail
        refine (HTT.out x4 (HX3.out.trans (HX4.out.mono HX3.out.size))).mono ?_
        rintro e x5 ⟨rfl, hb5⟩
        have HX5 := Lib.hid (HX4.out.trans (hb5.mono HX4.out.size))
        clear hb5 HX4 HTT HCKS
        go_wp2_with fail
        go_loopw [13] (fun t wr => ∃ j : Nat, j ≤ k ∧ t = .int .i64 j ∧ Hid (Below x3.heap.size x3 wr)) (fun t _ => k - (intOf t).toNat)
        case atStart => exact ⟨0, Nat.zero_le _, rfl, HX5.out⟩
        case round =>
          obtain ⟨j, hj, rfl, hBX⟩ := hrel
          by_cases hlt2 : j < k
          · obtain ⟨b, o, rfl, hb, hc⟩ := HCS.out.2 (by omega)
            obtain ⟨A', n', c', hcell, hst⟩ := hc j hlt2
            have hw3 := HB4.out.trans (HX3.out.mono HB4.out.size)
            have hw := hw3.trans (hBX.out.mono hw3.size)
            have hcl := (hw.cell (p := ⟨b, o + j, none⟩) hb).trans hcell
            have hbr := Nat.lt_of_lt_of_le hb hw.size
            obtain ⟨g1, rfl, hq1⟩ := HR1.out (by omega)
            obtain ⟨g2, rfl, hq2⟩ := HR2.out (by omega)
            have hg1 : g1 < wr.heap.size := by obtain ⟨_, cs, hbk, _⟩ := hq1.below hBX.out; exact hbk.lt
            have hg2 : g2 < wr.heap.size := by obtain ⟨_, cs, hbk, _⟩ := hq2.below hBX.out; exact hbk.lt
            obtain ⟨D1, e1, f1, D2, e2, f2, p0, p1, p2, p3, -, -, -, -, m1', m2', w1', w2'⟩ := (hq1.below hBX.out).cells hlt2
            obtain ⟨D3, e3, f3, D4, e4, f4, q0, q1, q2, q3, -, -, -, -, m3', m4', w3', w4'⟩ := (hq2.below hBX.out).cells hlt2
            rw [HXQ.out j hlt2] at p0 w1' w2'
            rw [HYQ.out j hlt2] at q0 w3' w4'
            obtain ⟨s1, s2, s3⟩ := HSI.out j hlt2
            have hmem := getD_mem (d := ([] : List (Int × Int))) (show j < ls.length by rw [HLN.out]; exact hlt2)
            have hSU := fun W (hW : Kp wr W) => sum_any A' n' c' (ls[j]?.getD []) W ((hst.below hw).below hW) (by rw [← hst.1]; exact HSM.out _ hmem)
            rw [s1] at hSU
            generalize qsum (ls[j]?.getD []) = z at *
            have hFI := fun W => qfromInt64_any z W (by omega) (by omega)
            have wqx : WQ wr ((z : Int) : Rat) D1 e1 f1 D2 e2 f2 := ⟨m1', m2', w1', w2'⟩
            have wqy : WQ wr ((0 : Int) : Rat) D3 e3 f3 D4 e4 f4 := ⟨m3', m4', w3', w4'⟩
            have hEQ := fun W (hW : Kp wr W) (A2 A3 : Option Addr) (k2 c2 k3 c3 : Nat) (h2 : WQ W ((z : Int) : Rat) A2 k2 c2 A3 k3 c3) => qequal_any _ false _ false D1 D2 A2 A3 e1 f1 e2 f2 k2 c2 k3 c3 ((z : Int) : Rat) ((z : Int) : Rat) W ((wqx.below hW).at (by rw [Rat.num_intCast]; omega) (by rw [Rat.den_intCast]; omega)) (h2.at (by rw [Rat.num_intCast]; omega) (by rw [Rat.den_intCast]; omega))
            have hSG := fun W (hW : Kp wr W) => qsign_any _ false D3 D4 e3 f3 e4 f4 ((0 : Int) : Rat) W ((wqy.below hW).at (by rw [Rat.num_intCast]; omega) (by rw [Rat.den_intCast]; omega))
            rw [show sgnQ ((0 : Int) : Rat) = 0 from by decide] at hSG
            simp only [decide_true] at hEQ
            generalize ((z : Int) : Rat) = zq at *
            generalize ((0 : Int) : Rat) = yq at *
            have hS : ∀ w', Kp wr w' → (w'.cell? ⟨b, o + j, none⟩ = some (.slice A' n' c') ∧ w'.cell? ⟨g1, j * 4, none⟩ = some (.bool (decide (zq.num < 0))) ∧ w'.cell? ⟨g1, j * 4 + 1, none⟩ = some (.slice D1 e1 f1) ∧ w'.cell? ⟨g1, j * 4 + 2, none⟩ = some (.bool false) ∧ w'.cell? ⟨g1, j * 4 + 3, none⟩ = some (.slice D2 e2 f2) ∧
                w'.cell? ⟨g2, j * 4, none⟩ = some (.bool (decide (yq.num < 0))) ∧ w'.cell? ⟨g2, j * 4 + 1, none⟩ = some (.slice D3 e3 f3) ∧ w'.cell? ⟨g2, j * 4 + 2, none⟩ = some (.bool false) ∧ w'.cell? ⟨g2, j * 4 + 3, none⟩ = some (.slice D4 e4 f4)) ∧ Kp wr w' := fun w' hk =>
              ⟨⟨(Below.cell hk hbr).trans hcl, (Below.cell hk hg1).trans p0, (Below.cell hk hg1).trans p1, (Below.cell hk hg1).trans p2, (Below.cell hk hg1).trans p3, (Below.cell hk hg2).trans q0, (Below.cell hk hg2).trans q1, (Below.cell hk hg2).trans q2, (Below.cell hk hg2).trans q3⟩, hk⟩
            have HS := Lib.hid hS
            have HSU := Lib.hid hSU
            have HFI := Lib.hid hFI
            have HEQ := Lib.hid hEQ
            have HSG := Lib.hid hSG
            have hk0 := Kp.refl wr
            have j1 : (0 : Int) ≤ (j : Int) := by omega
            have j2 : (j : Int) < (k : Int) := by omega
            clear hc hcell hst hw3 hw hcl hbr hq1 hq2 hg1 hg2 p0 p1 p2 p3 q0 q1 q2 q3 m1' m2' w1' w2' m3' m4' w3' w4' s1 s2 s3 hmem hSU hFI wqx wqy hEQ hSG hS
            go_wp2_with fail
            go_region_held3 (fun w' => (w'.cell? ⟨b, o + j, none⟩ = some (.slice A' n' c') ∧ w'.cell? ⟨g1, j * 4, none⟩ = some (.bool (decide (zq.num < 0))) ∧ w'.cell? ⟨g1, j * 4 + 1, none⟩ = some (.slice D1 e1 f1) ∧ w'.cell? ⟨g1, j * 4 + 2, none⟩ = some (.bool false) ∧ w'.cell? ⟨g1, j * 4 + 3, none⟩ = some (.slice D2 e2 f2) ∧
                w'.cell? ⟨g2, j * 4, none⟩ = some (.bool (decide (yq.num < 0))) ∧ w'.cell? ⟨g2, j * 4 + 1, none⟩ = some (.slice D3 e3 f3) ∧ w'.cell? ⟨g2, j * 4 + 2, none⟩ = some (.bool false) ∧ w'.cell? ⟨g2, j * 4 + 3, none⟩ = some (.slice D4 e4 f4)) ∧ Kp wr w')
              (first | (with_reducible refine HS.out _ ?_; with_reducible assumption) | (with_reducible refine HS.out _ (Kp.drew ?_); with_reducible assumption) | (with_reducible refine' HS.out _ (Kp.drew (And.right _)); rotate_left; with_reducible assumption))
              (first
                | (go_at_call 49; have hk := And.right ‹_ ∧ Kp wr _›; refine (HSU.out _ hk).mono ?_; rintro e v1 ⟨rfl, hb1⟩; have hk1 := Kp.trans hk hb1; clear hb1)
                | (go_at_call 50; have hk := And.right ‹_ ∧ Kp wr _›; refine (HFI.out _).mono ?_; rintro e v2 ⟨A2, k2, c2, A3, k3, c3, rfl, h2, h3, hW2, hW3, -, -, hb2⟩; have hk2 := Kp.trans hk hb2; have HWQ := Lib.hid (⟨h2, h3, hW2, hW3⟩ : WQ v2 zq A2 k2 c2 A3 k3 c3); clear hb2 h2 h3 hW2 hW3)
                | (go_at_call 51; have hk := And.right ‹_ ∧ Kp wr _›; refine (HEQ.out _ hk _ _ _ _ _ _ HWQ.out).mono ?_; rintro e v3 ⟨rfl, hb3⟩; have hk3 := Kp.trans hk hb3; clear hb3)
                | (go_at_call 52; have hk := And.right ‹_ ∧ Kp wr _›; refine (HSG.out _ hk).mono ?_; rintro e v4 ⟨rfl, hb4⟩; have hk4 := Kp.trans hk hb4; clear hb4))
            have HV9 := Lib.hid (hBX.out.trans (Below.mono hk4 hBX.out.size))
            clear hk4 hk3 hk2 hk1 hk0 HSU HFI HEQ HSG HS HWQ
            go_wp2
            go_roundw
            case rel => exact ⟨j + 1, by omega, by go_num, HV9.out⟩
            case measure => simp [intOf]; omega
          · obtain rfl : j = k := by omega
            go_wp2
            go_ret
            have h4 := HX3.out.trans (hBX.out.mono HX3.out.size)
            exact ⟨rfl, HB4.out.trans (h4.mono HB4.out.size)⟩
  · have dx : ((ckC up ls).2 != 0) = true := by simpa using hx
    generalize (ckC up ls).2 = x at *
    clear hV1 hx
    go_wp2
    go_ret
    exact ⟨rfl, HB4.out⟩

theorem scomp_any (A : Option Addr) (n c : Nat) (ls : List (List (Int × Int))) (bids : Bool) (w : World) (h : CsAt w A n ls) :
    Calls Tryz.prog 8 #[.slice A n c, .bool bids] w fun e w' => e = .returned (.bool true) ∧ Below w.heap.size w w' := by
  by_cases hx : longC ls = true
  · exact scomp_short A n c ls bids w h hx
  · exact scomp_main A n c ls bids w h (by rw [← Bool.not_eq_true]; exact hx)

end Go.Proofs.YtnjpojpfiijlfaaGreat
