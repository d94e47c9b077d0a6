/-
The walk of StackAggregation: valid curves. No statement of the seat is proved here; no conditions beyond those of each theorem.
-/
import Derived.Test.YtnjpojpfiijlfaaGreatZ4
namespace Go.Proofs.YtnjpojpfiijlfaaGreat
set_option linter.unusedVariables false
set_option linter.unusedSimpArgs false
open Go.RowKit
open Wd
attribute [local go_sem ↓] Go.wp_at_zero Go.wp_at_succ

set_option maxRecDepth 100000 in
set_option maxHeartbeats 8000000 in
theorem sagg_offers (A : Option Addr) (n c : Nat) (ls : List (List (Int × Int))) (an an' : Bool) (aA aA' : Option Addr) (ak ac ak' ac' : Nat) (w : World) (h : CsAt w A n ls) (hq : QRaw w aA ak ac aA' ak' ac') (hlg : longC ls = false) (hak : ak ≤ 6) (hak' : ak' ≤ 6) :
    Calls Tryz.prog 9 #[.slice A n c, .bool false, .agg #[.bool an, .slice aA ak ac, .bool an', .slice aA' ak' ac']] w fun e w' => e = .returned (.bool true) ∧ Below w.heap.size w w' := by
  have HAW := Lib.hid (fun W => awake24_any W)
  have HL := Lib.hid (fun W (hW : Below w.heap.size w W) => long24_any A n c ls W (h.below hW))
  have HLQ := Lib.hid (fun W => long_q an an' aA aA' ak ac ak' ac' W)
  rw [hlg] at HL
  rw [show (decide (6 < ak) || decide (6 < ak')) = false by simp; omega] at HLQ
  obtain ⟨q, hqa⟩ := hq.arg an an' (by omega) (by omega)
  have HQ := Lib.hid hqa
  have HSM := Lib.hid (longC_small hlg)
  have HLN := Lib.hid h.1
  have HCS := Lib.hid h
  clear h hlg hq hqa
  go_enter Tryz.func9, Tryz.ntmps9
  go_wp2_with fail
  have hbx := Blk.new w 42 #[.bool an, .slice aA ak ac, .bool an', .slice aA' ak' ac']
  have hb0 : Below w.heap.size w (w.alloc (.cells #[.bool an, .slice aA ak ac, .bool an', .slice aA' ak' ac'] 42)) := (Below.refl _ _).alloc (Nat.le_refl _) _
  generalize w.alloc (.cells #[.bool an, .slice aA ak ac, .bool an', .slice aA' ak' ac'] 42) = W0 at *
  refine (HL.out W0 hb0).mono ?_
  rintro e w1 ⟨rfl, hb1⟩
  have hbx1 := hbx.below hb1 hbx.lt
  obtain ⟨f0, f1, f2, f3, -, -, -, -⟩ := hbx1.four
  have HB1 := Lib.hid (hb0.trans (hb1.mono hb0.size))
  have HBX := Lib.hid hbx1
  clear hbx hb0 hb1 HL hbx1
  go_wp2_with fail
  refine (HLQ.out w1).mono ?_
  rintro e w2 ⟨rfl, hb2⟩
  have kx := (Kp.refl w1).alloc (.cells #[.bool an, .slice aA ak ac, .bool an', .slice aA' ak' ac'] 42)
  have hb2' : Below w1.heap.size w1 w2 := Below.trans kx (hb2.mono (by simp))
  have HB2 := Lib.hid (HB1.out.trans (hb2'.mono HB1.out.size))
  have HBX2 := Lib.hid (HBX.out.below hb2' HBX.out.lt)
  clear hb2 hb2' kx HB1 HBX HLQ f0 f1 f2 f3
  go_wp2_with fail
  refine (HAW.out _).mono ?_
  rintro e w3 ⟨rfl, hb3⟩
  have HB3 := Lib.hid (HB2.out.trans (hb3.mono HB2.out.size))
  have HBX3 := Lib.hid (HBX2.out.below hb3 HBX2.out.lt)
  clear hb3 HB2 HBX2 HAW
  have HS1 := Lib.hid (stacked_any A n c ls false w3 (HCS.out.below HB3.out) HSM.out)
  rw [show (!false) = true from rfl] at HS1
  go_wp2_with fail
  refine HS1.out.mono ?_
  rintro e u1 ⟨A1, m1, cap1, lv, rfl, hL1, hV1, hZ1, hb4⟩
  have HB4 := Lib.hid (HB3.out.trans (hb4.mono HB3.out.size))
  have HBX4 := Lib.hid (HBX3.out.below hb4 HBX3.out.lt)
  have HA1 := Lib.hid hL1
  clear hL1 hZ1 hb4 HS1 HB3 HBX3
  by_cases hx : (ckC true ls).2 = 0
  · have HV := Lib.hid (hV1 hx)
    have HCK := Lib.hid (ckC_iff.1 hx)
    rw [hx]
    clear hV1 hx
    have hn16 : n ≤ 16 := by have := HCK.out.1; have := HLN.out; omega
    have HWB := Lib.hid (fun l (hl : l ∈ ls) => show (0 ≤ wlL (-1) q l ∧ wlL (-1) q l ≤ 3000000) ∧ (0 ≤ wlM (-1) q l ∧ wlM (-1) q l ≤ 3000000) by
      have h2 := chk_ok (HCK.out.2 l hl)
      have h3 := wl_bd (l := l) (-1) q h2.2.2.2
      have h4 := h2.2.1
      omega)
    have HAG := Lib.hid (agg_lv (side := -1) (q := q) HV.out.1)
    have hm48 : m1 ≤ 48 := by rw [← HA1.out.1]; exact HV.out.2.len
    go_wp2_with fail
    go_loopw [9, 10, 11] (fun tl tm t wr => ∃ k : Nat, k ≤ n ∧ t = .int .i64 k ∧ tl = .int .i64 (sumI ((ls.take k).map (wlL (-1) q))) ∧ tm = .int .i64 (sumI ((ls.take k).map (wlM (-1) q))) ∧ Hid (Below u1.heap.size u1 wr)) (fun _ _ t _ => n - (intOf t).toNat)
    case atStart => exact ⟨0, Nat.zero_le _, rfl, rfl, rfl, Below.refl _ _⟩
    case round =>
      obtain ⟨k, hk, rfl, rfl, rfl, hB⟩ := hrel
      by_cases hlt : k < n
      · obtain ⟨b, o, rfl, hb, hc⟩ := HCS.out.2 (by omega)
        obtain ⟨A', n', c', hcell, hst⟩ := hc k hlt
        have hw := HB4.out.trans (hB.out.mono HB4.out.size)
        have hcl := (hw.cell (p := ⟨b, o + k, none⟩) hb).trans hcell
        have hbr := Nat.lt_of_lt_of_le hb hw.size
        have hbx := HBX4.out.below hB.out HBX4.out.lt
        have hkl : k < ls.length := by rw [HLN.out]; exact hlt
        have hmem := getD_mem (d := ([] : List (Int × Int))) hkl
        have hck := HCK.out.2 _ hmem
        have s1 := sumw_snoc (wlL (-1) q) hkl
        have s2 := sumw_snoc (wlM (-1) q) hkl
        have hwb := HWB.out _ hmem
        have bd1 := sumw_bd (wlL (-1) q) (ls.take k) fun l hl => (HWB.out l (List.mem_of_mem_take hl)).1
        have bd2 := sumw_bd (wlM (-1) q) (ls.take k) fun l hl => (HWB.out l (List.mem_of_mem_take hl)).2
        have hl2 := List.length_take_le k ls
        have hSU := fun W (hW : Kp wr W) => supplyAt_any A' n' c' (ls[k]?.getD []) an an' aA aA' ak ac ak' ac' q W ((hst.below hw).below hW) ((HQ.out.below hw).below hW) hck
        have HSU := Lib.hid hSU
        generalize wlL (-1) q (ls[k]?.getD []) = xl at *
        generalize wlM (-1) q (ls[k]?.getD []) = xm at *
        generalize sumI ((ls.take k).map (wlL (-1) q)) = vl at *
        generalize sumI ((ls.take k).map (wlM (-1) q)) = vm at *
        have wl1 : IntKind.i64.wrap (vl + xl) = vl + xl := IntWalk.i64_in _ (by omega)
        have wl2 : IntKind.i64.wrap (vm + xm) = vm + xm := IntWalk.i64_in _ (by omega)
        have u0 := fun s : KW wr => (Below.cell s.h (p := ⟨b, o + k, none⟩) hbr).trans hcl
        have u1' := fun s : KW wr => KW.cell hbx 0 s
        have u2 := fun s : KW wr => KW.cell hbx 1 s
        have u3 := fun s : KW wr => KW.cell hbx 2 s
        have u4 := fun s : KW wr => KW.cell hbx 3 s
        simp at u1' u2 u3 u4
        have k1 : (0 : Int) ≤ (k : Int) := by omega
        have k2 : (k : Int) < (n : Int) := by omega
        have HS1 := Lib.hid s1
        have HS2 := Lib.hid s2
        have HKC := Lib.hid (And.intro hcl (And.intro hbr hbx))
        clear hc hcell hst hw hkl hmem hck s1 s2 hwb bd1 bd2 hl2 hcl hbr hbx hSU
        go_wp2_with fail
        try simp only [List.append_eq, List.cons_append, List.nil_append]
        refine wp_region_kw (W := wr) (by kernel_rfl) (by kernel_rfl) ?_
        repeat (go_big_quiet_step ((go_at_call 53; exact kw_call (HSU.out _ (KW.h _)))))
        refine wpQuiet_nil ?_
        intro v9 hw9
        have hv9 : Kp wr v9 := by obtain ⟨s, rfl⟩ := hw9; exact s.h
        have HV9 := Lib.hid (hB.out.trans (Below.mono hv9 hB.out.size))
        clear hw9 hv9 u0 u1' u2 u3 u4
        go_wp2
        go_roundw
        case rel => exact ⟨k + 1, by omega, by go_num, by rw [HS1.out], by rw [HS2.out], HV9.out⟩
        case measure => simp [intOf]; omega
      · obtain rfl : k = n := by omega
        rw [List.take_of_length_le (by rw [HLN.out]; exact Nat.le_refl _), ← HAG.out.1, ← HAG.out.2]
        have bdt := lv_bd lv (-1) q HV.out.2.qty
        have hlv := HA1.out.1
        generalize hLt : lvL (-1) q lv = L at *
        generalize hMt : lvM (-1) q lv = M at *
        have HT := Lib.hid (And.intro hLt hMt)
        clear hLt hMt
        go_wp2_with fail
        go_loopw [9, 10, 15] (fun tl tm t wr => ∃ j : Nat, j ≤ m1 ∧ t = .int .i64 j ∧ tl = .int .i64 (L - lvL (-1) q (lv.take j)) ∧ tm = .int .i64 (M - lvM (-1) q (lv.take j)) ∧ Hid (Below u1.heap.size u1 wr)) (fun _ _ t _ => m1 - (intOf t).toNat)
        case atStart => exact ⟨0, Nat.zero_le _, rfl, by simp [lvL, sumI], by simp [lvM, sumI], hB.out⟩
        case round =>
          obtain ⟨j, hj, rfl, rfl, rfl, hBX⟩ := hrel
          by_cases hlt2 : j < m1
          · obtain ⟨b1, o1, rfl, hb1, hc1⟩ := HA1.out.2 (by omega)
            obtain ⟨P1, d1, ⟨y0, y1, y2⟩, -⟩ := hc1 j hlt2
            have hjl : j < lv.length := by rw [hlv]; exact hlt2
            have hq1 := HV.out.2.qty _ (getD_mem (d := Lv0) hjl)
            have hp1 := HV.out.2.price _ (getD_mem (d := Lv0) hjl)
            have s1 := lvL_snoc (side := -1) (q := q) hjl
            have s2 := lvM_snoc (side := -1) (q := q) hjl
            have bdj := lv_bd (lv.take j) (-1) q fun x hx => HV.out.2.qty x (List.mem_of_mem_take hx)
            have hl2 := List.length_take_le j lv
            generalize (lv[j]?.getD Lv0).1 = p at *
            generalize (lv[j]?.getD Lv0).2.1 = r at *
            replace y0 := (hBX.out.cell (p := ⟨b1, o1 + j * 3, none⟩) hb1).trans y0
            replace y1 := (hBX.out.cell (p := ⟨b1, o1 + j * 3 + 1, none⟩) hb1).trans y1
            have hbr := Nat.lt_of_lt_of_le hb1 hBX.out.size
            have hbx := HBX4.out.below hBX.out HBX4.out.lt
            have hw := HB4.out.trans (hBX.out.mono HB4.out.size)
            have hFI := fun W => qfromInt64_any p W (by omega) (by omega)
            have hCM := fun W (hW : Kp wr W) (A2 A3 : Option Addr) (k2 c2 k3 c3 : Nat) (h2 : WQ W ((p : Int) : Rat) A2 k2 c2 A3 k3 c3) => qcmp_arg _ false an an' A2 A3 aA aA' k2 c2 k3 c3 ak ac ak' ac' ((p : Int) : Rat) q W (h2.arg (by omega)) ((HQ.out.below hw).below hW)
            have hcv := cmpQ_three ((p : Int) : Rat) q
            generalize cmpQ ((p : Int) : Rat) q = cv at *
            generalize ((p : Int) : Rat) = pq at *
            generalize lvL (-1) q (lv.take j) = vl at *
            generalize lvM (-1) q (lv.take j) = vm at *
            have wl1 : IntKind.i64.wrap (L - vl - r) = L - vl - r := IntWalk.i64_in _ (by omega)
            have wl2 : IntKind.i64.wrap (M - vm - r) = M - vm - r := IntWalk.i64_in _ (by omega)
            have hS : ∀ w', Kp wr w' → (w'.cell? ⟨b1, o1 + j * 3, none⟩ = some (.int .i64 p) ∧ w'.cell? ⟨w.heap.size, 0, none⟩ = some (.bool an) ∧ w'.cell? ⟨w.heap.size, 1, none⟩ = some (.slice aA ak ac) ∧ w'.cell? ⟨w.heap.size, 2, none⟩ = some (.bool an') ∧ w'.cell? ⟨w.heap.size, 3, none⟩ = some (.slice aA' ak' ac')) ∧ Kp wr w' := fun w' hk => ⟨⟨(Below.cell hk hbr).trans y0, (hk.blk hbx).cell 0, (hk.blk hbx).cell 1, (hk.blk hbx).cell 2, (hk.blk hbx).cell 3⟩, hk⟩
            have HS := Lib.hid hS
            have HFI := Lib.hid hFI
            have HCM := Lib.hid hCM
            have HS1 := Lib.hid s1
            have HS2 := Lib.hid s2
            have HY1 := Lib.hid (And.intro y1 hbr)
            have hk0 := Kp.refl wr
            have j1 : (0 : Int) ≤ (j : Int) := by omega
            have j2 : (j : Int) < (m1 : Int) := by omega
            clear hc1 y0 y1 y2 hjl hq1 hp1 s1 s2 bdj hl2 hbr hbx hw hFI hCM hS
            go_wp2_with fail
            go_region_held3 (fun w' => (w'.cell? ⟨b1, o1 + j * 3, none⟩ = some (.int .i64 p) ∧ w'.cell? ⟨w.heap.size, 0, none⟩ = some (.bool an) ∧ w'.cell? ⟨w.heap.size, 1, none⟩ = some (.slice aA ak ac) ∧ w'.cell? ⟨w.heap.size, 2, none⟩ = some (.bool an') ∧ w'.cell? ⟨w.heap.size, 3, none⟩ = some (.slice aA' ak' ac')) ∧ Kp wr w')
              (first | (with_reducible refine HS.out _ ?_; with_reducible assumption) | (with_reducible refine HS.out _ (Kp.drew ?_); with_reducible assumption) | (with_reducible refine' HS.out _ (Kp.drew (And.right _)); rotate_left; with_reducible assumption))
              (first
                | (go_at_call 50; have hk := And.right ‹_ ∧ Kp wr _›; refine (HFI.out _).mono ?_; rintro e v2 ⟨A2, k2, c2, A3, k3, c3, rfl, h2, h3, hW2, hW3, -, -, hb2⟩; have hk2 := Kp.trans hk hb2; have HWQ := Lib.hid (⟨h2, h3, hW2, hW3⟩ : WQ v2 pq A2 k2 c2 A3 k3 c3); clear hb2 h2 h3 hW2 hW3)
                | (go_at_call 55; have hk := And.right ‹_ ∧ Kp wr _›; refine (HCM.out _ hk _ _ _ _ _ _ HWQ.out).mono ?_; rintro e v3 ⟨rfl, hb3⟩; have hk3 := Kp.trans hk hb3; clear hb3))
            have HF := Lib.hid (hBX.out.trans (Below.mono hk3 hBX.out.size))
            have y1 := (Below.cell hk3 (p := ⟨b1, o1 + j * 3 + 1, none⟩) HY1.out.2).trans HY1.out.1
            clear hk0 hk2 hk3 HS HFI HCM HWQ HY1
            rcases hcv with rfl | rfl | rfl
            · have e1 := HS1.out
              have e2 := HS2.out
              rw [if_pos rfl] at e1
              rw [if_pos (Or.inl rfl)] at e2
              have E1 := Lib.hid e1
              have E2 := Lib.hid e2
              clear e1 e2 HS1 HS2
              go_wp2
              go_roundw
              case rel => exact ⟨j + 1, by omega, by go_num, by rw [E1.out] <;> (try (congr 1; omega)), by rw [E2.out] <;> (try (congr 1; omega)), HF.out⟩
              case measure => simp [intOf]; omega
            · have e1 := HS1.out
              have e2 := HS2.out
              rw [if_neg (by decide), Int.add_zero] at e1
              rw [if_pos (Or.inr rfl)] at e2
              have E1 := Lib.hid e1
              have E2 := Lib.hid e2
              clear e1 e2 HS1 HS2
              go_wp2
              go_roundw
              case rel => exact ⟨j + 1, by omega, by go_num, by rw [E1.out] <;> (try (congr 1; omega)), by rw [E2.out] <;> (try (congr 1; omega)), HF.out⟩
              case measure => simp [intOf]; omega
            · have e1 := HS1.out
              have e2 := HS2.out
              rw [if_neg (by decide), Int.add_zero] at e1
              rw [if_neg (by decide), Int.add_zero] at e2
              have E1 := Lib.hid e1
              have E2 := Lib.hid e2
              clear e1 e2 HS1 HS2
              go_wp2
              go_roundw
              case rel => exact ⟨j + 1, by omega, by go_num, by rw [E1.out] <;> (try (congr 1; omega)), by rw [E2.out] <;> (try (congr 1; omega)), HF.out⟩
              case measure => simp [intOf]; omega
          · obtain rfl : j = m1 := by omega
            have ht := HT.out
            rw [List.take_of_length_le (by rw [hlv]; exact Nat.le_refl _), ht.1, ht.2, Int.sub_self, Int.sub_self]
            clear ht HT
            go_wp2
            go_ret
            exact ⟨rfl, HB4.out.trans (hBX.out.mono HB4.out.size)⟩
  · have dx : ((ckC true ls).2 != 0) = true := by simpa using hx
    generalize (ckC true ls).2 = x at *
    clear hV1 hx
    go_wp2
    go_ret
    exact ⟨rfl, HB4.out⟩

set_option maxRecDepth 100000 in
set_option maxHeartbeats 8000000 in
theorem sagg_bids (A : Option Addr) (n c : Nat) (ls : List (List (Int × Int))) (an an' : Bool) (aA aA' : Option Addr) (ak ac ak' ac' : Nat) (w : World) (h : CsAt w A n ls) (hq : QRaw w aA ak ac aA' ak' ac') (hlg : longC ls = false) (hak : ak ≤ 6) (hak' : ak' ≤ 6) :
    Calls Tryz.prog 9 #[.slice A n c, .bool true, .agg #[.bool an, .slice aA ak ac, .bool an', .slice aA' ak' ac']] w fun e w' => e = .returned (.bool true) ∧ Below w.heap.size w w' := by
  have HAW := Lib.hid (fun W => awake24_any W)
  have HL := Lib.hid (fun W (hW : Below w.heap.size w W) => long24_any A n c ls W (h.below hW))
  have HLQ := Lib.hid (fun W => long_q an an' aA aA' ak ac ak' ac' W)
  rw [hlg] at HL
  rw [show (decide (6 < ak) || decide (6 < ak')) = false by simp; omega] at HLQ
  obtain ⟨q, hqa⟩ := hq.arg an an' (by omega) (by omega)
  have HQ := Lib.hid hqa
  have HSM := Lib.hid (longC_small hlg)
  have HLN := Lib.hid h.1
  have HCS := Lib.hid h
  clear h hlg hq hqa
  go_enter Tryz.func9, Tryz.ntmps9
  go_wp2_with fail
  have hbx := Blk.new w 42 #[.bool an, .slice aA ak ac, .bool an', .slice aA' ak' ac']
  have hb0 : Below w.heap.size w (w.alloc (.cells #[.bool an, .slice aA ak ac, .bool an', .slice aA' ak' ac'] 42)) := (Below.refl _ _).alloc (Nat.le_refl _) _
  generalize w.alloc (.cells #[.bool an, .slice aA ak ac, .bool an', .slice aA' ak' ac'] 42) = W0 at *
  refine (HL.out W0 hb0).mono ?_
  rintro e w1 ⟨rfl, hb1⟩
  have hbx1 := hbx.below hb1 hbx.lt
  obtain ⟨f0, f1, f2, f3, -, -, -, -⟩ := hbx1.four
  have HB1 := Lib.hid (hb0.trans (hb1.mono hb0.size))
  have HBX := Lib.hid hbx1
  clear hbx hb0 hb1 HL hbx1
  go_wp2_with fail
  refine (HLQ.out w1).mono ?_
  rintro e w2 ⟨rfl, hb2⟩
  have kx := (Kp.refl w1).alloc (.cells #[.bool an, .slice aA ak ac, .bool an', .slice aA' ak' ac'] 42)
  have hb2' : Below w1.heap.size w1 w2 := Below.trans kx (hb2.mono (by simp))
  have HB2 := Lib.hid (HB1.out.trans (hb2'.mono HB1.out.size))
  have HBX2 := Lib.hid (HBX.out.below hb2' HBX.out.lt)
  clear hb2 hb2' kx HB1 HBX HLQ f0 f1 f2 f3
  go_wp2_with fail
  refine (HAW.out _).mono ?_
  rintro e w3 ⟨rfl, hb3⟩
  have HB3 := Lib.hid (HB2.out.trans (hb3.mono HB2.out.size))
  have HBX3 := Lib.hid (HBX2.out.below hb3 HBX2.out.lt)
  clear hb3 HB2 HBX2 HAW
  have HS1 := Lib.hid (stacked_any A n c ls true w3 (HCS.out.below HB3.out) HSM.out)
  rw [show (!true) = false from rfl] at HS1
  go_wp2_with fail
  refine HS1.out.mono ?_
  rintro e u1 ⟨A1, m1, cap1, lv, rfl, hL1, hV1, hZ1, hb4⟩
  have HB4 := Lib.hid (HB3.out.trans (hb4.mono HB3.out.size))
  have HBX4 := Lib.hid (HBX3.out.below hb4 HBX3.out.lt)
  have HA1 := Lib.hid hL1
  clear hL1 hZ1 hb4 HS1 HB3 HBX3
  by_cases hx : (ckC false ls).2 = 0
  · have HV := Lib.hid (hV1 hx)
    have HCK := Lib.hid (ckC_iff.1 hx)
    rw [hx]
    clear hV1 hx
    have hn16 : n ≤ 16 := by have := HCK.out.1; have := HLN.out; omega
    have HWB := Lib.hid (fun l (hl : l ∈ ls) => show (0 ≤ wlL (1) q l ∧ wlL (1) q l ≤ 3000000) ∧ (0 ≤ wlM (1) q l ∧ wlM (1) q l ≤ 3000000) by
      have h2 := chk_ok (HCK.out.2 l hl)
      have h3 := wl_bd (l := l) (1) q h2.2.2.2
      have h4 := h2.2.1
      omega)
    have HAG := Lib.hid (agg_lv (side := 1) (q := q) HV.out.1)
    have hm48 : m1 ≤ 48 := by rw [← HA1.out.1]; exact HV.out.2.len
    go_wp2_with fail
    go_loopw [9, 10, 11] (fun tl tm t wr => ∃ k : Nat, k ≤ n ∧ t = .int .i64 k ∧ tl = .int .i64 (sumI ((ls.take k).map (wlL (1) q))) ∧ tm = .int .i64 (sumI ((ls.take k).map (wlM (1) q))) ∧ Hid (Below u1.heap.size u1 wr)) (fun _ _ t _ => n - (intOf t).toNat)
    case atStart => exact ⟨0, Nat.zero_le _, rfl, rfl, rfl, Below.refl _ _⟩
    case round =>
      obtain ⟨k, hk, rfl, rfl, rfl, hB⟩ := hrel
      by_cases hlt : k < n
      · obtain ⟨b, o, rfl, hb, hc⟩ := HCS.out.2 (by omega)
        obtain ⟨A', n', c', hcell, hst⟩ := hc k hlt
        have hw := HB4.out.trans (hB.out.mono HB4.out.size)
        have hcl := (hw.cell (p := ⟨b, o + k, none⟩) hb).trans hcell
        have hbr := Nat.lt_of_lt_of_le hb hw.size
        have hbx := HBX4.out.below hB.out HBX4.out.lt
        have hkl : k < ls.length := by rw [HLN.out]; exact hlt
        have hmem := getD_mem (d := ([] : List (Int × Int))) hkl
        have hck := HCK.out.2 _ hmem
        have s1 := sumw_snoc (wlL (1) q) hkl
        have s2 := sumw_snoc (wlM (1) q) hkl
        have hwb := HWB.out _ hmem
        have bd1 := sumw_bd (wlL (1) q) (ls.take k) fun l hl => (HWB.out l (List.mem_of_mem_take hl)).1
        have bd2 := sumw_bd (wlM (1) q) (ls.take k) fun l hl => (HWB.out l (List.mem_of_mem_take hl)).2
        have hl2 := List.length_take_le k ls
        have hSU : ∃ a9 b9 e9, ∀ W (hW : Kp wr W), Calls Tryz.prog 53 #[.slice A' n' c', .agg #[.bool an, .slice aA ak ac, .bool an', .slice aA' ak' ac']] W fun e w' => e = .returned (.tuple #[.int .i64 a9, .int .i64 b9, .int .i64 e9]) ∧ Below W.heap.size W w' := by
          by_cases h9 : chk true (ls[k]?.getD []) = 0
          · exact ⟨_, _, _, fun W hW => supplyAt_any A' n' c' (ls[k]?.getD []) an an' aA aA' ak ac ak' ac' q W ((hst.below hw).below hW) ((HQ.out.below hw).below hW) h9⟩
          · exact ⟨_, _, _, fun W hW => supplyAt_no A' n' c' (ls[k]?.getD []) an an' aA aA' ak ac ak' ac' W ((hst.below hw).below hW) (by rw [← hst.1]; exact HSM.out _ hmem) h9⟩
        obtain ⟨a9, b9, e9, hSU⟩ := hSU
        have hDE := fun W (hW : Kp wr W) => demandAt_any A' n' c' (ls[k]?.getD []) an an' aA aA' ak ac ak' ac' q W ((hst.below hw).below hW) ((HQ.out.below hw).below hW) hck
        have HSU := Lib.hid hSU
        have HDE := Lib.hid hDE
        generalize wlL (1) q (ls[k]?.getD []) = xl at *
        generalize wlM (1) q (ls[k]?.getD []) = xm at *
        generalize sumI ((ls.take k).map (wlL (1) q)) = vl at *
        generalize sumI ((ls.take k).map (wlM (1) q)) = vm at *
        have wl1 : IntKind.i64.wrap (vl + xl) = vl + xl := IntWalk.i64_in _ (by omega)
        have wl2 : IntKind.i64.wrap (vm + xm) = vm + xm := IntWalk.i64_in _ (by omega)
        have u0 := fun s : KW wr => (Below.cell s.h (p := ⟨b, o + k, none⟩) hbr).trans hcl
        have u1' := fun s : KW wr => KW.cell hbx 0 s
        have u2 := fun s : KW wr => KW.cell hbx 1 s
        have u3 := fun s : KW wr => KW.cell hbx 2 s
        have u4 := fun s : KW wr => KW.cell hbx 3 s
        simp at u1' u2 u3 u4
        have k1 : (0 : Int) ≤ (k : Int) := by omega
        have k2 : (k : Int) < (n : Int) := by omega
        have HS1 := Lib.hid s1
        have HS2 := Lib.hid s2
        have HKC := Lib.hid (And.intro hcl (And.intro hbr hbx))
        clear hc hcell hst hw hkl hmem hck s1 s2 hwb bd1 bd2 hl2 hcl hbr hbx hSU hDE
        go_wp2_with fail
        try simp only [List.append_eq, List.cons_append, List.nil_append]
        refine wp_region_kw (W := wr) (by kernel_rfl) (by kernel_rfl) ?_
        repeat (go_big_quiet_step ((go_at_call 53; exact kw_call (HSU.out _ (KW.h _)))))
        refine wpQuiet_nil ?_
        intro v1 hw1
        have hv1 : Kp wr v1 := by obtain ⟨s, rfl⟩ := hw1; exact s.h
        have HV1 := Lib.hid hv1
        clear hw1 hv1 u0 u1' u2 u3 u4
        have u0 := fun s : KW v1 => (Below.cell s.h (p := ⟨b, o + k, none⟩) (Nat.lt_of_lt_of_le HKC.out.2.1 (Below.size HV1.out))).trans ((Below.cell HV1.out HKC.out.2.1).trans HKC.out.1)
        have u1' := fun s : KW v1 => KW.cell (HV1.out.blk HKC.out.2.2) 0 s
        have u2 := fun s : KW v1 => KW.cell (HV1.out.blk HKC.out.2.2) 1 s
        have u3 := fun s : KW v1 => KW.cell (HV1.out.blk HKC.out.2.2) 2 s
        have u4 := fun s : KW v1 => KW.cell (HV1.out.blk HKC.out.2.2) 3 s
        simp at u1' u2 u3 u4
        have HDE := Lib.hid (fun W (hW : Kp v1 W) => HDE.out W (Kp.trans HV1.out hW))
        go_wp2_with fail
        try simp only [List.append_eq, List.cons_append, List.nil_append]
        refine wp_region_kw (W := v1) (by kernel_rfl) (by kernel_rfl) ?_
        repeat (go_big_quiet_step ((go_at_call 54; exact kw_call (HDE.out _ (KW.h _)))))
        refine wpQuiet_nil ?_
        intro v9 hw9
        have hv9 : Kp wr v9 := by obtain ⟨s, rfl⟩ := hw9; exact Kp.trans HV1.out s.h
        have HV9 := Lib.hid (hB.out.trans (Below.mono hv9 hB.out.size))
        clear hw9 hv9 u0 u1' u2 u3 u4
        go_wp2
        go_roundw
        case rel => exact ⟨k + 1, by omega, by go_num, by rw [HS1.out], by rw [HS2.out], HV9.out⟩
        case measure => simp [intOf]; omega
      · obtain rfl : k = n := by omega
        rw [List.take_of_length_le (by rw [HLN.out]; exact Nat.le_refl _), ← HAG.out.1, ← HAG.out.2]
        have bdt := lv_bd lv (1) q HV.out.2.qty
        have hlv := HA1.out.1
        generalize hLt : lvL (1) q lv = L at *
        generalize hMt : lvM (1) q lv = M at *
        have HT := Lib.hid (And.intro hLt hMt)
        clear hLt hMt
        go_wp2_with fail
        go_loopw [9, 10, 15] (fun tl tm t wr => ∃ j : Nat, j ≤ m1 ∧ t = .int .i64 j ∧ tl = .int .i64 (L - lvL (1) q (lv.take j)) ∧ tm = .int .i64 (M - lvM (1) q (lv.take j)) ∧ Hid (Below u1.heap.size u1 wr)) (fun _ _ t _ => m1 - (intOf t).toNat)
        case atStart => exact ⟨0, Nat.zero_le _, rfl, by simp [lvL, sumI], by simp [lvM, sumI], hB.out⟩
        case round =>
          obtain ⟨j, hj, rfl, rfl, rfl, hBX⟩ := hrel
          by_cases hlt2 : j < m1
          · obtain ⟨b1, o1, rfl, hb1, hc1⟩ := HA1.out.2 (by omega)
            obtain ⟨P1, d1, ⟨y0, y1, y2⟩, -⟩ := hc1 j hlt2
            have hjl : j < lv.length := by rw [hlv]; exact hlt2
            have hq1 := HV.out.2.qty _ (getD_mem (d := Lv0) hjl)
            have hp1 := HV.out.2.price _ (getD_mem (d := Lv0) hjl)
            have s1 := lvL_snoc (side := 1) (q := q) hjl
            have s2 := lvM_snoc (side := 1) (q := q) hjl
            have bdj := lv_bd (lv.take j) (1) q fun x hx => HV.out.2.qty x (List.mem_of_mem_take hx)
            have hl2 := List.length_take_le j lv
            generalize (lv[j]?.getD Lv0).1 = p at *
            generalize (lv[j]?.getD Lv0).2.1 = r at *
            replace y0 := (hBX.out.cell (p := ⟨b1, o1 + j * 3, none⟩) hb1).trans y0
            replace y1 := (hBX.out.cell (p := ⟨b1, o1 + j * 3 + 1, none⟩) hb1).trans y1
            have hbr := Nat.lt_of_lt_of_le hb1 hBX.out.size
            have hbx := HBX4.out.below hBX.out HBX4.out.lt
            have hw := HB4.out.trans (hBX.out.mono HB4.out.size)
            have hFI := fun W => qfromInt64_any p W (by omega) (by omega)
            have hCM := fun W (hW : Kp wr W) (A2 A3 : Option Addr) (k2 c2 k3 c3 : Nat) (h2 : WQ W ((p : Int) : Rat) A2 k2 c2 A3 k3 c3) => qcmp_arg _ false an an' A2 A3 aA aA' k2 c2 k3 c3 ak ac ak' ac' ((p : Int) : Rat) q W (h2.arg (by omega)) ((HQ.out.below hw).below hW)
            have hcv := cmpQ_three ((p : Int) : Rat) q
            generalize cmpQ ((p : Int) : Rat) q = cv at *
            generalize ((p : Int) : Rat) = pq at *
            generalize lvL (1) q (lv.take j) = vl at *
            generalize lvM (1) q (lv.take j) = vm at *
            have wl1 : IntKind.i64.wrap (L - vl - r) = L - vl - r := IntWalk.i64_in _ (by omega)
            have wl2 : IntKind.i64.wrap (M - vm - r) = M - vm - r := IntWalk.i64_in _ (by omega)
            have hS : ∀ w', Kp wr w' → (w'.cell? ⟨b1, o1 + j * 3, none⟩ = some (.int .i64 p) ∧ w'.cell? ⟨w.heap.size, 0, none⟩ = some (.bool an) ∧ w'.cell? ⟨w.heap.size, 1, none⟩ = some (.slice aA ak ac) ∧ w'.cell? ⟨w.heap.size, 2, none⟩ = some (.bool an') ∧ w'.cell? ⟨w.heap.size, 3, none⟩ = some (.slice aA' ak' ac')) ∧ Kp wr w' := fun w' hk => ⟨⟨(Below.cell hk hbr).trans y0, (hk.blk hbx).cell 0, (hk.blk hbx).cell 1, (hk.blk hbx).cell 2, (hk.blk hbx).cell 3⟩, hk⟩
            have HS := Lib.hid hS
            have HFI := Lib.hid hFI
            have HCM := Lib.hid hCM
            have HS1 := Lib.hid s1
            have HS2 := Lib.hid s2
            have HY1 := Lib.hid (And.intro y1 hbr)
            have hk0 := Kp.refl wr
            have j1 : (0 : Int) ≤ (j : Int) := by omega
            have j2 : (j : Int) < (m1 : Int) := by omega
            clear hc1 y0 y1 y2 hjl hq1 hp1 s1 s2 bdj hl2 hbr hbx hw hFI hCM hS
            go_wp2_with fail
            go_region_held3 (fun w' => (w'.cell? ⟨b1, o1 + j * 3, none⟩ = some (.int .i64 p) ∧ w'.cell? ⟨w.heap.size, 0, none⟩ = some (.bool an) ∧ w'.cell? ⟨w.heap.size, 1, none⟩ = some (.slice aA ak ac) ∧ w'.cell? ⟨w.heap.size, 2, none⟩ = some (.bool an') ∧ w'.cell? ⟨w.heap.size, 3, none⟩ = some (.slice aA' ak' ac')) ∧ Kp wr w')
              (first | (with_reducible refine HS.out _ ?_; with_reducible assumption) | (with_reducible refine HS.out _ (Kp.drew ?_); with_reducible assumption) | (with_reducible refine' HS.out _ (Kp.drew (And.right _)); rotate_left; with_reducible assumption))
              (first
                | (go_at_call 50; have hk := And.right ‹_ ∧ Kp wr _›; refine (HFI.out _).mono ?_; rintro e v2 ⟨A2, k2, c2, A3, k3, c3, rfl, h2, h3, hW2, hW3, -, -, hb2⟩; have hk2 := Kp.trans hk hb2; have HWQ := Lib.hid (⟨h2, h3, hW2, hW3⟩ : WQ v2 pq A2 k2 c2 A3 k3 c3); clear hb2 h2 h3 hW2 hW3)
                | (go_at_call 55; have hk := And.right ‹_ ∧ Kp wr _›; refine (HCM.out _ hk _ _ _ _ _ _ HWQ.out).mono ?_; rintro e v3 ⟨rfl, hb3⟩; have hk3 := Kp.trans hk hb3; clear hb3))
            have HF := Lib.hid (hBX.out.trans (Below.mono hk3 hBX.out.size))
            have y1 := (Below.cell hk3 (p := ⟨b1, o1 + j * 3 + 1, none⟩) HY1.out.2).trans HY1.out.1
            clear hk0 hk2 hk3 HS HFI HCM HWQ HY1
            rcases hcv with rfl | rfl | rfl
            · have e1 := HS1.out
              have e2 := HS2.out
              rw [if_neg (by decide), Int.add_zero] at e1
              rw [if_neg (by decide), Int.add_zero] at e2
              have E1 := Lib.hid e1
              have E2 := Lib.hid e2
              clear e1 e2 HS1 HS2
              go_wp2
              go_roundw
              case rel => exact ⟨j + 1, by omega, by go_num, by rw [E1.out] <;> (try (congr 1; omega)), by rw [E2.out] <;> (try (congr 1; omega)), HF.out⟩
              case measure => simp [intOf]; omega
            · have e1 := HS1.out
              have e2 := HS2.out
              rw [if_neg (by decide), Int.add_zero] at e1
              rw [if_pos (Or.inr rfl)] at e2
              have E1 := Lib.hid e1
              have E2 := Lib.hid e2
              clear e1 e2 HS1 HS2
              go_wp2
              go_roundw
              case rel => exact ⟨j + 1, by omega, by go_num, by rw [E1.out] <;> (try (congr 1; omega)), by rw [E2.out] <;> (try (congr 1; omega)), HF.out⟩
              case measure => simp [intOf]; omega
            · have e1 := HS1.out
              have e2 := HS2.out
              rw [if_pos rfl] at e1
              rw [if_pos (Or.inl rfl)] at e2
              have E1 := Lib.hid e1
              have E2 := Lib.hid e2
              clear e1 e2 HS1 HS2
              go_wp2
              go_roundw
              case rel => exact ⟨j + 1, by omega, by go_num, by rw [E1.out] <;> (try (congr 1; omega)), by rw [E2.out] <;> (try (congr 1; omega)), HF.out⟩
              case measure => simp [intOf]; omega
          · obtain rfl : j = m1 := by omega
            have ht := HT.out
            rw [List.take_of_length_le (by rw [hlv]; exact Nat.le_refl _), ht.1, ht.2, Int.sub_self, Int.sub_self]
            clear ht HT
            go_wp2
            go_ret
            exact ⟨rfl, HB4.out.trans (hBX.out.mono HB4.out.size)⟩
  · have dx : ((ckC false ls).2 != 0) = true := by simpa using hx
    generalize (ckC false ls).2 = x at *
    clear hV1 hx
    go_wp2
    go_ret
    exact ⟨rfl, HB4.out⟩

theorem sagg_any (A : Option Addr) (n c : Nat) (ls : List (List (Int × Int))) (bids : Bool) (an an' : Bool) (aA aA' : Option Addr) (ak ac ak' ac' : Nat) (w : World) (h : CsAt w A n ls) (hq : QRaw w aA ak ac aA' ak' ac') :
    Calls Tryz.prog 9 #[.slice A n c, .bool bids, .agg #[.bool an, .slice aA ak ac, .bool an', .slice aA' ak' ac']] w fun e w' => e = .returned (.bool true) ∧ Below w.heap.size w w' := by
  by_cases hx : longC ls = true ∨ (decide (6 < ak) || decide (6 < ak')) = true
  · exact sagg_short A n c ls bids an an' aA aA' ak ac ak' ac' w h hq hx
  · have h1 : longC ls = false := by rw [← Bool.not_eq_true]; exact fun e => hx (Or.inl e)
    have h2 : ¬ (6 < ak ∨ 6 < ak') := fun e => hx (Or.inr (by simpa using e))
    cases bids
    · exact sagg_offers A n c ls an an' aA aA' ak ac ak' ac' w h hq h1 (by omega) (by omega)
    · exact sagg_bids A n c ls an an' aA aA' ak ac ak' ac' w h hq h1 (by omega) (by omega)

end Go.Proofs.YtnjpojpfiijlfaaGreat
