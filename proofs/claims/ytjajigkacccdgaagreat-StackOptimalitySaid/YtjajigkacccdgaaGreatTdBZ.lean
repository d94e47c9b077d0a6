/-
The walk of StackOptimality. No statement of the seat is proved here; no conditions beyond those of each theorem.
-/
import Derived.Test.YtjajigkacccdgaaGreatTdBY
import Derived.Test.YtjajigkacccdgaaGreatTdBP
namespace Go.Proofs.YtjajigkacccdgaaGreat
set_option linter.unusedVariables false
set_option linter.unusedSimpArgs false
open Go.RowKit
open Wd

set_option maxRecDepth 100000 in
set_option maxHeartbeats 4000000 in
theorem sopt_short (A R : Option Addr) (n c rn rc : Nat) (ls : List (List (Int × Int))) (bids : Bool) (er : List QE) (w : World) (h : CsAt w A n ls) (hr : GRaw w R rn er) (hx : longC ls = true ∨ rn ≠ n ∨ er.any bigQ = true) : Calls Tryz.prog 6 #[.slice A n c, .bool bids, .slice R rn rc] w fun e w' => e = .returned (.bool true) ∧ Below w.heap.size w w' := by
 have HAW := Lib.hid (fun W => awake24_any W)
 have HL := Lib.hid (long24_any A n c ls w h)
 have HG2 := Lib.hid (fun W (hW : Below w.heap.size w W) => long23_big R rn rc er W (hr.1.below hW) hr.2.2)
 by_cases x1 : longC ls = true
 ·rw [x1] at HL
  clear h hr hx x1 HG2
  go_enter Tryz.func6, Tryz.ntmps6
  go_wp2_with fail
  refine HL.out.mono ?_
  rintro e w1 ⟨rfl, hb1⟩
  have HB1 := Lib.hid hb1
  clear hb1 HL
  go_wp2_with fail
  refine (HAW.out _).mono ?_
  rintro e wz ⟨rfl, hbz⟩
  have HBZ := Lib.hid (HB1.out.trans (hbz.mono HB1.out.size))
  clear hbz
  go_wp2
  go_ret
  exact ⟨rfl, HBZ.out⟩
 ·rw [Bool.not_eq_true] at x1
  rw [x1] at HL
  by_cases x2 : rn = n
  ·have x3 : er.any bigQ = true := by
    rcases hx with hx | hx | hx
    ·rw [x1] at hx; simp at hx
    ·exact absurd x2 hx
    ·exact hx
   have n1 : ((rn : Int) != (n : Int)) = false := by simp [x2]
   rw [x3] at HG2
   clear h hr hx x1 x2 x3
   go_enter Tryz.func6, Tryz.ntmps6
   go_wp2_with fail
   refine HL.out.mono ?_
   rintro e w1 ⟨rfl, hb1⟩
   have HB1 := Lib.hid hb1
   clear hb1 HL
   go_wp2_with fail
   refine (HG2.out w1 HB1.out).mono ?_
   rintro e w2 ⟨rfl, hb2⟩
   have HB2 := Lib.hid (HB1.out.trans (hb2.mono HB1.out.size))
   clear hb2 HB1 HG2
   go_wp2_with fail
   refine (HAW.out _).mono ?_
   rintro e wz ⟨rfl, hbz⟩
   have HBZ := Lib.hid (HB2.out.trans (hbz.mono HB2.out.size))
   clear hbz
   go_wp2
   go_ret
   exact ⟨rfl, HBZ.out⟩
  ·have n1 : ((rn : Int) != (n : Int)) = true := by simp; omega
   clear h hr hx x1 x2 HG2
   go_enter Tryz.func6, Tryz.ntmps6
   go_wp2_with fail
   refine HL.out.mono ?_
   rintro e w1 ⟨rfl, hb1⟩
   have HB1 := Lib.hid hb1
   clear hb1 HL
   go_wp2_with fail
   refine (HAW.out _).mono ?_
   rintro e wz ⟨rfl, hbz⟩
   have HBZ := Lib.hid (HB1.out.trans (hbz.mono HB1.out.size))
   clear hbz
   go_wp2
   go_ret
   exact ⟨rfl, HBZ.out⟩

theorem from_zero (W : World) (x : Rat) (hx : x = 0) : Calls Tryz.prog 40 #[.int .i64 0] W (RetQ W x) := by
 subst hx
 have := qfromInt64_any 0 W (by decide) (by decide)
 exact this
theorem eq_same {s : Nat} {q : Rat} {w : World} {an an' bn bn' : Bool} {aA aA' bA bA' : Option Addr} {ak ac ak' ac' bk bc bk' bc' : Nat} (ha : QS s w an aA ak ac an' aA' ak' ac' q) (hb : QS s w bn bA bk bc bn' bA' bk' bc' q) :
  Calls Tryz.prog 44 #[.agg #[.bool an, .slice aA ak ac, .bool an', .slice aA' ak' ac'], .agg #[.bool bn, .slice bA bk bc, .bool bn', .slice bA' bk' bc']] w fun e w' => e = .returned (.bool true) ∧ Below w.heap.size w w' := by
 have h := eq_s ha hb
 rw [decide_eq_true (rfl : q = q)] at h
 exact h
/-- The three ways on: before the loops, and the sizes that the walk comes to. -/
theorem TotR.mk {w W : World} {g g' : Nat} {m s : Rat} {A A' B B' : Option Addr} {j c j' c' i d i' d' : Nat} (h1 : Below w.heap.size w W) (h2 : Blk W g 42 #[.bool (decide ((m).num < 0)), .slice A j c, .bool false, .slice A' j' c']) (h3 : CQ w.heap.size W m A j c A' j' c') (h4 : Blk W g' 42 #[.bool (decide ((s).num < 0)), .slice B i d, .bool false, .slice B' i' d']) (h5 : CQ w.heap.size W s B i d B' i' d') : TotR w g g' m s A j c A' j' c' B i d B' i' d' W := ⟨h1, h2, h3, h4, h5⟩


set_option maxRecDepth 100000 in
set_option maxHeartbeats 16000000 in
theorem sopt_yes (A R : Option Addr) (n c rn rc : Nat) (ls : List (List (Int × Int))) (bids : Bool) (er : List QE) (w : World) (h : CsAt w A n ls) (hr : GRaw w R rn er) (x1 : longC ls = false) (x2 : rn = n) (x3 : er.any bigQ = false) : Calls Tryz.prog 6 #[.slice A n c, .bool bids, .slice R rn rc] w fun e w' => e = .returned (.bool true) ∧ Below w.heap.size w w' := by
 have HAW := Lib.hid (fun W => awake24_any W)
 have HL := Lib.hid (long24_any A n c ls w h)
 have HG2 := Lib.hid (fun W (hW : Below w.heap.size w W) => long23_big R rn rc er W (hr.1.below hW) hr.2.2)
 obtain ⟨gs, hgs⟩ := hr.qs x3
 have hs := longC_small x1
 subst x2
 have HST := Lib.hid (fun W (hW : Below w.heap.size w W) => stacked_any A rn c ls bids W (h.below hW) hs)
 have n1 : ((rn : Int) != (rn : Int)) = false := by simp
 rw [x1] at HL
 rw [x3] at HG2
 have HQR := Lib.hid hgs
 have HX := Lib.hid h
 have HLN := Lib.hid h.1
 have hlq : ∀ j, j < rn → Ls 7 (gs[j]?.getD 0) := by
  obtain ⟨es, _, hw⟩ := hgs.raw
  exact fun j hj => (hw j hj).ls
 have HLQ := Lib.hid hlq
 clear h hr x1 x3 hs hgs hlq
 go_enter Tryz.func6, Tryz.ntmps6
 go_wp2_with fail
 refine HL.out.mono ?_
 rintro e w1 ⟨rfl, hb1⟩
 have HB1 := Lib.hid hb1
 clear hb1 HL
 go_wp2_with fail
 refine (HG2.out w1 HB1.out).mono ?_
 rintro e w2 ⟨rfl, hb2⟩
 have HB2 := Lib.hid (HB1.out.trans (hb2.mono HB1.out.size))
 clear hb2 HB1 HG2
 go_wp2_with fail
 refine (HAW.out _).mono ?_
 rintro e w3 ⟨rfl, hb3⟩
 have HB3 := Lib.hid (HB2.out.trans (hb3.mono HB2.out.size))
 clear hb3 HB2 HAW
 go_wp2_with fail
 refine (HST.out w3 HB3.out).mono ?_
 rintro e w4 ⟨A1, m, cap, lv, rfl, g1, g2, g3, hb4⟩
 have HB4 := Lib.hid (HB3.out.trans (hb4.mono HB3.out.size))
 by_cases hck : (ckC (!bids) ls).2 = 0
 ·obtain ⟨hlv, hv⟩ := g2 hck
  obtain ⟨hn16, hk, -⟩ := ckC_good hck
  rw [hck]
  have HLV := Lib.hid (And.intro hlv hv)
  have HK := Lib.hid hk
  have HKC := Lib.hid (show ∀ j, j < rn → curveE (ls[j]?.getD []) = 0 from fun j hj => curve_good (hk _ (getD_mem (d := []) (by have := HLN.out; omega))))
  have HG1 := Lib.hid g1
  have hn16' : rn ≤ 16 := by have := HLN.out; omega
  have HM0 := Lib.hid (no_levels HLN.out g1.1 hlv hk)
  have H0a := Lib.hid (fun W => from_zero W (qtyA gs 0) rfl)
  have H0b := Lib.hid (fun W => from_zero W (moneyA ls gs 0) rfl)
  clear hlv hv hk g1 g2 g3 hb4 HB3 HST hck hn16
  go_wp2_with fail
  refine (H0a.out w4).mono ?_
  rintro e w5 ⟨A5, k5, c5, A6, k6, c6, rfl, hk5, hk6, hW5, hW6, hF5, hF6, hb5⟩
  have hq5 : CQ w.heap.size w5 (qtyA gs 0) A5 k5 c5 A6 k6 c6 := ⟨hk5, hk6, hW5, hW6, hF5.mono HB4.out.size, hF6.mono HB4.out.size⟩
  have HB5 := Lib.hid (HB4.out.trans (hb5.mono HB4.out.size))
  have HH5 := Lib.hid hb5
  clear hk5 hk6 hW5 hW6 hF5 hF6 hb5 H0a
  go_wp2_with fail
  refine (H0b.out w5).mono ?_
  rintro e w6 ⟨A7, k7, c7, A8, k8, c8, rfl, hk7, hk8, hW7, hW8, hF7, hF8, hb6⟩
  have hq7 : CQ w.heap.size w6 (moneyA ls gs 0) A7 k7 c7 A8 k8 c8 := ⟨hk7, hk8, hW7, hW8, hF7.mono HB5.out.size, hF8.mono HB5.out.size⟩
  have hB6 := HB5.out.trans (hb6.mono HB5.out.size)
  have hq6 := hq5.below hb6
  have k2 := ((Kp.refl w6).alloc (.cells #[.bool (decide ((qtyA gs 0).num < 0)), .slice A5 k5 c5, .bool false, .slice A6 k6 c6] 42)).alloc (.cells #[.bool (decide ((moneyA ls gs 0).num < 0)), .slice A7 k7 c7, .bool false, .slice A8 k8 c8] 42)
  have b9 := (Blk.new w6 42 #[.bool (decide ((qtyA gs 0).num < 0)), .slice A5 k5 c5, .bool false, .slice A6 k6 c6]).alloc (.cells #[.bool (decide ((moneyA ls gs 0).num < 0)), .slice A7 k7 c7, .bool false, .slice A8 k8 c8] 42)
  have b10 := Blk.new (w6.alloc (.cells #[.bool (decide ((qtyA gs 0).num < 0)), .slice A5 k5 c5, .bool false, .slice A6 k6 c6] 42)) 42 #[.bool (decide ((moneyA ls gs 0).num < 0)), .slice A7 k7 c7, .bool false, .slice A8 k8 c8]
  simp only [World.size_alloc] at b10
  have HT0 := Lib.hid (TotR.mk (hB6.trans (Below.mono k2 hB6.size)) b10 (hq7.below k2) b9 (hq6.below k2))
  have HG9 := Lib.hid (show w.heap.size ≤ w6.heap.size from hB6.size)
  have HG4 := Lib.hid (show w4.heap.size ≤ w6.heap.size from Nat.le_trans HH5.out.size hb6.size)
  have HKW := Lib.hid (show Kp w4 ((w6.alloc (.cells #[.bool (decide ((qtyA gs 0).num < 0)), .slice A5 k5 c5, .bool false, .slice A6 k6 c6] 42)).alloc (.cells #[.bool (decide ((moneyA ls gs 0).num < 0)), .slice A7 k7 c7, .bool false, .slice A8 k8 c8] 42)) from Kp.trans (Kp.trans HH5.out hb6) k2)
  clear hk7 hk8 hW7 hW8 hF7 hF8 hb6 H0b hq5 hq6 hq7 b9 b10 k2 hB6 HB5 HH5
  go_wp2_with fail
  generalize (w6.alloc (.cells #[.bool (decide ((qtyA gs 0).num < 0)), .slice A5 k5 c5, .bool false, .slice A6 k6 c6] 42)).alloc (.cells #[.bool (decide ((moneyA ls gs 0).num < 0)), .slice A7 k7 c7, .bool false, .slice A8 k8 c8] 42) = V at *
  generalize w6.heap.size = g9 at *
  go_loopw [11] (fun t wr => ∃ (i : Nat) (P1 : Option Addr) (j1 d1 : Nat) (P2 : Option Addr) (j2 d2 : Nat) (R1 : Option Addr) (j3 d3 : Nat) (R2 : Option Addr) (j4 d4 : Nat), i ≤ rn ∧ t = .int .i64 i ∧ Hid (TotR w (g9 + 1) g9 (moneyA ls gs i) (qtyA gs i) P1 j1 d1 P2 j2 d2 R1 j3 d3 R2 j4 d4 wr) ∧ Hid (Below w4.heap.size w4 wr) ∧ Hid (∀ j, j < i → 0 ≤ gs[j]?.getD 0 ∧ gs[j]?.getD 0 ≤ ((qsum (ls[j]?.getD []) : Int) : Rat))) (fun t _ => rn - (intOf t).toNat)
  case atStart => exact ⟨0, A7, k7, c7, A8, k8, c8, A5, k5, c5, A6, k6, c6, Nat.zero_le _, rfl, HT0.out, HKW.out, fun j hj => absurd hj (by omega)⟩
  case round =>
   clear HT0 HKW
   obtain ⟨i, P1, j1, d1, P2, j2, d2, R1, j3, d3, R2, j4, d4, hi, rfl, HT, HKW, HGD⟩ := hrel
   obtain ⟨wz, rfl⟩ : ∃ u, u = wr := ⟨_, rfl⟩
   by_cases hlt : i < rn
   ·obtain ⟨b, o, rfl, hb0, hc1⟩ := (HX.out.below HT.out.1).2 (by omega)
    obtain ⟨A', n', c', hcl, hst⟩ := hc1 i hlt
    obtain ⟨b2, o2, rfl, hb02, hc2⟩ := (HQR.out.below HT.out.1).2 (by omega)
    obtain ⟨an, aA, ak, ac, an', aA', ak', ac', y0, y1, y2, y3, hqs⟩ := hc2 i hlt
    have hbr := hb0
    have hbr2 := hb02
    have hce := HKC.out i hlt
    have e' : n' = (ls[i]?.getD []).length := hst.1.symm
    have i1 : (0 : Int) ≤ (i : Int) := by omega
    have i2 : (i : Int) < (rn : Int) := by omega
    by_cases hgd : 0 ≤ gs[i]?.getD 0 ∧ gs[i]?.getD 0 ≤ ((qsum (ls[i]?.getD []) : Int) : Rat)
    ·have TCO := Lib.hid (fun W (hW : Kp wz W) => scost_s (s := 7) (by decide) (by decide) A' n' c' _ an an' aA aA' ak ac ak' ac' _ W (hst.below hW) (hqs.below hW) hce hgd.1 hgd.2)
     have HQS := Lib.hid hqs
     have hcol := (cost_ls (s := 7) (by decide) hce hgd.1 (HLQ.out i hlt))
     rw [← e'] at hcol
     have HGI := Lib.hid hgd
     have HNM := Lib.hid (show moneyA ls gs (i + 1) = moneyA ls gs i + costAt (ls[i]?.getD []) (gs[i]?.getD 0) n' from by rw [e']; rfl)
     have HNQ := Lib.hid (show qtyA gs (i + 1) = qtyA gs i + gs[i]?.getD 0 from rfl)
     have HCOL := Lib.hid hcol
     generalize costAt (ls[i]?.getD []) (gs[i]?.getD 0) n' = co at *
     clear hc1 hc2 hst hqs hce hgd hcol hb0 hb02 e'
     have hne1 : g9 + 1 ≠ g9 := by omega
     have hne2 : g9 ≠ g9 + 1 := by omega
     have HGQ := Lib.hid HG9.out
     have HGM := Lib.hid (show w.heap.size ≤ g9 + 1 by have := HG9.out; omega)
     have HSQ0 := Lib.hid ((qtyA_ls HLQ.out i hi).mono (show i * (7 + 1) + 1 ≤ 1000 by omega))
     have HSM0 := Lib.hid ((moneyA_ls (n := i) (s := 7) (by decide) (fun j hj => HKC.out j (by omega)) (fun j hj => (HGD.out j hj).1) (fun j hj => HLQ.out j (by omega)) i (Nat.le_refl _)).mono (show i * (3 * (7 + 6) + 2) + 1 ≤ 1000 by omega))
     go_wp2_with fail
     have HS10 := Lib.hid (show ∀ w', Kp wz w' → (w'.cell? ⟨b, o + i, none⟩ = some (.slice A' n' c') ∧ w'.cell? ⟨b2, o2 + i * 4, none⟩ = some (.bool an) ∧ w'.cell? ⟨b2, o2 + i * 4 + 1, none⟩ = some (.slice aA ak ac) ∧ w'.cell? ⟨b2, o2 + i * 4 + 2, none⟩ = some (.bool an') ∧ w'.cell? ⟨b2, o2 + i * 4 + 3, none⟩ = some (.slice aA' ak' ac')) ∧ Kp wz w' from fun w' hk => ⟨⟨(Below.cell hk (p := ⟨b, _, none⟩) hbr).trans hcl, (Below.cell hk (p := ⟨b2, _, none⟩) hbr2).trans y0, (Below.cell hk (p := ⟨b2, _, none⟩) hbr2).trans y1, (Below.cell hk (p := ⟨b2, _, none⟩) hbr2).trans y2, (Below.cell hk (p := ⟨b2, _, none⟩) hbr2).trans y3⟩, hk⟩)
     refine wp_region_held_drew (S := fun w' => (w'.cell? ⟨b, o + i, none⟩ = some (.slice A' n' c') ∧ w'.cell? ⟨b2, o2 + i * 4, none⟩ = some (.bool an) ∧ w'.cell? ⟨b2, o2 + i * 4 + 1, none⟩ = some (.slice aA ak ac) ∧ w'.cell? ⟨b2, o2 + i * 4 + 2, none⟩ = some (.bool an') ∧ w'.cell? ⟨b2, o2 + i * 4 + 3, none⟩ = some (.slice aA' ak' ac')) ∧ Kp wz w') (by kernel_rfl) (HS10.out _ (Kp.drew (Kp.refl wz))) (fun hHeld => ?_)
     refine' tkk 0 rfl (by kernel_rfl) (fun _ _ _ h => h) (.inl ⟨by rfl, ?_⟩) (by assumption) ?_; rotate_left
     ·(intro w hSw; (try dsimp only at hSw); (try simp only [p1, p2, p3]); go_simp; first | done | with_reducible rfl)
     (try simp only [Act.put, p1, p2, p3, p4, p5, p6])
     refine' tkk 1 rfl (by kernel_rfl) (fun _ _ _ h => h) (.inl ⟨by rfl, ?_⟩) (by assumption) ?_; rotate_left
     ·(intro w hSw; (try dsimp only at hSw); (try simp only [p1, p2, p3]); go_simp; first | done | with_reducible rfl)
     (try simp only [Act.put, p1, p2, p3, p4, p5, p6])
     refine' tkk 2 rfl (by kernel_rfl) (fun _ _ _ h => h) (.inl ⟨by rfl, ?_⟩) (by assumption) ?_; rotate_left
     ·(intro w hSw; (try dsimp only at hSw); (try simp only [p1, p2, p3]); go_simp; first | done | with_reducible rfl)
     (try simp only [Act.put, p1, p2, p3, p4, p5, p6])
     refine' tkk 3 rfl (by kernel_rfl) (fun _ _ _ h => h) (.inl ⟨by rfl, ?_⟩) (by assumption) ?_; rotate_left
     ·(intro w hSw; (try dsimp only at hSw); (try simp only [p1, p2, p3]); go_simp; first | done | with_reducible rfl)
     (try simp only [Act.put, p1, p2, p3, p4, p5, p6])
     refine' tkk 4 rfl (by kernel_rfl) (fun _ _ _ h => h) (.inl ⟨by rfl, ?_⟩) (by assumption) ?_; rotate_left
     ·(intro w hSw; (try dsimp only at hSw); (try simp only [p1, p2, p3]); go_simp; first | done | with_reducible rfl)
     (try simp only [Act.put, p1, p2, p3, p4, p5, p6])
     refine' tkk 5 rfl (by kernel_rfl) (fun _ _ _ h => h) (.inl ⟨by rfl, ?_⟩) (by assumption) ?_; rotate_left
     ·(intro w hSw; (try dsimp only at hSw); (try simp only [p1, p2, p3]); go_simp; first | done | with_reducible rfl)
     (try simp only [Act.put, p1, p2, p3, p4, p5, p6])
     refine' tkk 6 rfl (by kernel_rfl) (fun _ _ _ h => h) (.inl ⟨by rfl, ?_⟩) (by assumption) ?_; rotate_left
     ·(intro w hSw; (try dsimp only at hSw); (try simp only [p1, p2, p3]); go_simp; first | done | with_reducible rfl)
     (try simp only [Act.put, p1, p2, p3, p4, p5, p6])
     refine' tkk 7 rfl (by kernel_rfl) (fun _ _ _ h => h) (.inl ⟨by rfl, ?_⟩) (by assumption) ?_; rotate_left
     ·(intro w hSw; (try dsimp only at hSw); (try simp only [p1, p2, p3]); go_simp; first | done | with_reducible rfl)
     (try simp only [Act.put, p1, p2, p3, p4, p5, p6])
     refine wpAnyH_ready (rs := [8, 12]) (by kernel_rfl) (by simp) ?_
     refine AllReadyH.cons rfl (fun K hK => ?_) ?_
     ·(try simp only [p1, p2, p3])
      go_simp
      have hk := And.right ‹_ ∧ Kp wz _›
      refine (TCO.out _ hk).mono ?_
      rintro e v8 ⟨N8, n8, o8, M8, p8, s8, rfl, hcq, hbx⟩
      have hp : Kp wz v8 := Kp.trans hk hbx
      (try replace hb12 := Blk.below hb12 hbx hb12.lt)
      have h8r := hcq.wq
      clear hcq
      clear hk hbx
      (try (go_wp2_with fail))
      refine hK.out _ _ ?k1 (fun hHeld1 => ?n1)
      case k1 => ((try dsimp only); first | (with_reducible refine HS10.out _ ?_; with_reducible assumption) | (with_reducible refine HS10.out _ (Kp.drew ?_); with_reducible assumption) | (with_reducible refine' HS10.out _ (Kp.drew (And.right ?_)); rotate_left; with_reducible assumption) | (with_reducible refine' HS10.out _ (Kp.alloc (And.right ?_) _); rotate_left; with_reducible assumption) | (with_reducible refine' HS10.out _ (kp_set4 (And.right ?_) hg12 _ _ _ _); rotate_left; with_reducible assumption) | (exact HS10.out _ (Kp.drew (Kp.alloc (Kp.refl wz) _))))
      clear hK K
      (try simp only [Act.put, p1, p2, p3, p4, p5, p6])
      refine' tkk 9 rfl (by kernel_rfl) (fun _ _ _ h => h) (.inl ⟨by rfl, ?_⟩) (by assumption) ?_; rotate_left
      ·(intro w hSw; (try dsimp only at hSw); (try simp only [p1, p2, p3]); go_simp; first | done | with_reducible rfl)
      (try simp only [Act.put, p1, p2, p3, p4, p5, p6])
      refine' tkk 10 rfl (by kernel_rfl) (fun _ _ _ h => h) (.inl ⟨by rfl, ?_⟩) (by assumption) ?_; rotate_left
      ·(intro w hSw; (try dsimp only at hSw); (try simp only [p1, p2, p3]); go_simp; first | done | with_reducible rfl)
      (try simp only [Act.put, p1, p2, p3, p4, p5, p6])
      refine' tkk 11 rfl (by kernel_rfl) (fun _ _ _ h => h) (.inl ⟨by rfl, ?_⟩) (by assumption) ?_; rotate_left
      ·(intro w hSw; (try dsimp only at hSw); (try simp only [p1, p2, p3]); go_simp; first | done | with_reducible rfl)
      (try simp only [Act.put, p1, p2, p3, p4, p5, p6])
      refine wpAnyH_ready (rs := [12]) (by kernel_rfl) (by simp) ?_
      refine AllReadyH.cons rfl (fun K hK => ?_) AllReadyH.nil
      (try simp only [p1, p2, p3])
      go_simp
      have hk := And.right ‹_ ∧ Kp wz _›
      have hg12 := Below.size hk
      have hb12 := blk_hereS hk 42 #[.bool false, .slice none 0 0, .bool false, .slice none 0 0]
      (try simp only [sz_drewS] at hb12 hg12)
      clear hk
      refine hK.out _ _ ?k2 (fun hHeld2 => ?n2)
      case k2 => ((try dsimp only); first | (with_reducible refine HS10.out _ ?_; with_reducible assumption) | (with_reducible refine HS10.out _ (Kp.drew ?_); with_reducible assumption) | (with_reducible refine' HS10.out _ (Kp.drew (And.right ?_)); rotate_left; with_reducible assumption) | (with_reducible refine' HS10.out _ (Kp.alloc (And.right ?_) _); rotate_left; with_reducible assumption) | (with_reducible refine' HS10.out _ (kp_set4 (And.right ?_) hg12 _ _ _ _); rotate_left; with_reducible assumption) | (exact HS10.out _ (Kp.drew (Kp.alloc (Kp.refl wz) _))))
      clear hK K
      (try simp only [Act.put, p1, p2, p3, p4, p5, p6])
      refine wpAnyH_ready (rs := [13]) (by kernel_rfl) (by simp) ?_
      refine AllReadyH.cons rfl (fun K hK => ?_) AllReadyH.nil
      have hk := And.right ‹_ ∧ Kp wz _›
      obtain ⟨_, _, _, _, i0, i1', i2', i3⟩ := hb12.four
      (try simp only [p1, p2, p3])
      go_simp
      refine hK.out _ _ ?k3 (fun hHeld3 => ?n3)
      case k3 => ((try dsimp only); first | (with_reducible refine HS10.out _ ?_; with_reducible assumption) | (with_reducible refine HS10.out _ (Kp.drew ?_); with_reducible assumption) | (with_reducible refine' HS10.out _ (Kp.drew (And.right ?_)); rotate_left; with_reducible assumption) | (with_reducible refine' HS10.out _ (Kp.alloc (And.right ?_) _); rotate_left; with_reducible assumption) | (with_reducible refine' HS10.out _ (kp_set4 (And.right ?_) hg12 _ _ _ _); rotate_left; with_reducible assumption) | (exact HS10.out _ (Kp.drew (Kp.alloc (Kp.refl wz) _))))
      clear hK K
      (try simp only [Act.put, p1, p2, p3, p4, p5, p6])
      refine' tkk 14 rfl (by kernel_rfl) (fun _ _ _ h => h) (.inl ⟨by rfl, ?_⟩) (by assumption) ?_; rotate_left
      ·(intro w hSw; (try dsimp only at hSw); (try simp only [p1, p2, p3]); go_simp; first | done | with_reducible rfl)
      (try simp only [Act.put, p1, p2, p3, p4, p5, p6])
      refine wpAnyH_done (by kernel_rfl) ?_ _
      (try clear hHeld1)
      (try clear hHeld2)
      (try clear hHeld3)
      clear HS10 TCO
      have hkY := Kp.alloc hp (.cells #[.bool (decide ((co).num < 0)), .slice N8 n8 o8, .bool false, .slice M8 p8 s8] 42)
      have hbY := Blk.new v8 42 #[.bool (decide ((co).num < 0)), .slice N8 n8 o8, .bool false, .slice M8 p8 s8]
      have hqY := WQ.below h8r ((Kp.refl v8).alloc (.cells #[.bool (decide ((co).num < 0)), .slice N8 n8 o8, .bool false, .slice M8 p8 s8] 42))
      clear hk hp hb12 hg12 i0 i1' i2' i3 h8r
      generalize v8.alloc (.cells #[.bool (decide ((co).num < 0)), .slice N8 n8 o8, .bool false, .slice M8 p8 s8] 42) = Y at *
      generalize v8.heap.size = g12 at *
      have HTY := Lib.hid (HT.out.call hkY)
      have HKY := Lib.hid (HKW.out.trans (Below.mono hkY HKW.out.size))
      have HBY := Lib.hid hbY
      have HCO := Lib.hid hqY
      have z0 := (Below.cell hkY (p := ⟨b2, _, none⟩) hbr2).trans y0
      have z1 := (Below.cell hkY (p := ⟨b2, _, none⟩) hbr2).trans y1
      have z2 := (Below.cell hkY (p := ⟨b2, _, none⟩) hbr2).trans y2
      have z3 := (Below.cell hkY (p := ⟨b2, _, none⟩) hbr2).trans y3
      have hbY2 : b2 < Y.heap.size := Nat.lt_of_lt_of_le hbr2 (Below.size hkY)
      have HQY := Lib.hid (HQS.out.below hkY)
      have TQ1 := Lib.hid (fun (W : World) (hW : Kp Y W) => add_s (s := 1000) (by decide) (RQ.qs (WQ.below HTY.out.2.2.2.2.wq hW) HSQ0.out (by decide)) ((HQY.out.below hW).mono (by decide)))
      have TM1 := Lib.hid (fun (W : World) (hW : Kp Y W) => add_s (s := 1000) (by decide) (RQ.qs (WQ.below HTY.out.2.2.1.wq hW) HSM0.out (by decide)) (RQ.qs (WQ.below HCO.out hW) (HCOL.out.mono (by decide)) (by decide)))
      rw [← HNQ.out] at TQ1
      rw [← HNM.out] at TM1
      have HSQE : Hid (qtyA gs (i + 1) = qtyA gs (i + 1)) := Lib.hid rfl
      generalize hsqe : qtyA gs (i + 1) = sq' at *
      generalize hsme : moneyA ls gs (i + 1) = sm' at *
      have HSQ1 := Lib.hid hsqe
      have HSM1 := Lib.hid hsme
      generalize qtyA gs i = sq at *
      generalize moneyA ls gs i = sm at *
      clear hsqe hsme HSQE hbY hqY HT HKW HQS HSQ0 HSM0 hkY HCO y0 y1 y2 y3 hcl hbr hbr2
      go_wp2_with fail
      have HS13 := Lib.hid (show ∀ w', Kp Y w' → (w'.cell? ⟨g9, 0, none⟩ = some (.bool (decide (sq.num < 0))) ∧ w'.cell? ⟨g9, 1, none⟩ = some (.slice R1 j3 d3) ∧ w'.cell? ⟨g9, 2, none⟩ = some (.bool false) ∧ w'.cell? ⟨g9, 3, none⟩ = some (.slice R2 j4 d4) ∧ w'.cell? ⟨g9 + 1, 0, none⟩ = some (.bool (decide (sm.num < 0))) ∧ w'.cell? ⟨g9 + 1, 1, none⟩ = some (.slice P1 j1 d1) ∧ w'.cell? ⟨g9 + 1, 2, none⟩ = some (.bool false) ∧ w'.cell? ⟨g9 + 1, 3, none⟩ = some (.slice P2 j2 d2) ∧ w'.cell? ⟨g12, 0, none⟩ = some (.bool (decide (co.num < 0))) ∧ w'.cell? ⟨g12, 1, none⟩ = some (.slice N8 n8 o8) ∧ w'.cell? ⟨g12, 2, none⟩ = some (.bool false) ∧ w'.cell? ⟨g12, 3, none⟩ = some (.slice M8 p8 s8) ∧ w'.cell? ⟨b2, o2 + i * 4, none⟩ = some (.bool an) ∧ w'.cell? ⟨b2, o2 + i * 4 + 1, none⟩ = some (.slice aA ak ac) ∧ w'.cell? ⟨b2, o2 + i * 4 + 2, none⟩ = some (.bool an') ∧ w'.cell? ⟨b2, o2 + i * 4 + 3, none⟩ = some (.slice aA' ak' ac')) ∧ Kp Y w' from fun w' hk => ⟨⟨(Kp.blk hk HTY.out.2.2.2.1).cell 0, (Kp.blk hk HTY.out.2.2.2.1).cell 1, (Kp.blk hk HTY.out.2.2.2.1).cell 2, (Kp.blk hk HTY.out.2.2.2.1).cell 3, (Kp.blk hk HTY.out.2.1).cell 0, (Kp.blk hk HTY.out.2.1).cell 1, (Kp.blk hk HTY.out.2.1).cell 2, (Kp.blk hk HTY.out.2.1).cell 3, (Kp.blk hk HBY.out).cell 0, (Kp.blk hk HBY.out).cell 1, (Kp.blk hk HBY.out).cell 2, (Kp.blk hk HBY.out).cell 3, (Below.cell hk (p := ⟨b2, _, none⟩) hbY2).trans z0, (Below.cell hk (p := ⟨b2, _, none⟩) hbY2).trans z1, (Below.cell hk (p := ⟨b2, _, none⟩) hbY2).trans z2, (Below.cell hk (p := ⟨b2, _, none⟩) hbY2).trans z3⟩, hk⟩)
      refine wp_region_front 9 2 _ (fun w' => (w'.cell? ⟨g9, 0, none⟩ = some (.bool (decide (sq.num < 0))) ∧ w'.cell? ⟨g9, 1, none⟩ = some (.slice R1 j3 d3) ∧ w'.cell? ⟨g9, 2, none⟩ = some (.bool false) ∧ w'.cell? ⟨g9, 3, none⟩ = some (.slice R2 j4 d4) ∧ w'.cell? ⟨g9 + 1, 0, none⟩ = some (.bool (decide (sm.num < 0))) ∧ w'.cell? ⟨g9 + 1, 1, none⟩ = some (.slice P1 j1 d1) ∧ w'.cell? ⟨g9 + 1, 2, none⟩ = some (.bool false) ∧ w'.cell? ⟨g9 + 1, 3, none⟩ = some (.slice P2 j2 d2) ∧ w'.cell? ⟨g12, 0, none⟩ = some (.bool (decide (co.num < 0))) ∧ w'.cell? ⟨g12, 1, none⟩ = some (.slice N8 n8 o8) ∧ w'.cell? ⟨g12, 2, none⟩ = some (.bool false) ∧ w'.cell? ⟨g12, 3, none⟩ = some (.slice M8 p8 s8) ∧ w'.cell? ⟨b2, o2 + i * 4, none⟩ = some (.bool an) ∧ w'.cell? ⟨b2, o2 + i * 4 + 1, none⟩ = some (.slice aA ak ac) ∧ w'.cell? ⟨b2, o2 + i * 4 + 2, none⟩ = some (.bool an') ∧ w'.cell? ⟨b2, o2 + i * 4 + 3, none⟩ = some (.slice aA' ak' ac')) ∧ Kp Y w') (by kernel_rfl) (by kernel_rfl) rfl (HS13.out _ (Kp.drew (Kp.refl Y))) (fun hHeld => ?_)
      simp only [List.toList_toArray, List.take_succ_cons, List.take_zero]
      refine' tkk 0 rfl (by kernel_rfl) (fun _ _ _ h => h) (.inl ⟨by rfl, ?_⟩) (by assumption) ?_; rotate_left
      ·(intro w hSw; (try dsimp only at hSw); (try simp only [p1, p2, p3]); go_simp; first | done | with_reducible rfl)
      (try simp only [Act.put, p1, p2, p3, p4, p5, p6])
      refine' tkk 1 rfl (by kernel_rfl) (fun _ _ _ h => h) (.inl ⟨by rfl, ?_⟩) (by assumption) ?_; rotate_left
      ·(intro w hSw; (try dsimp only at hSw); (try simp only [p1, p2, p3]); go_simp; first | done | with_reducible rfl)
      (try simp only [Act.put, p1, p2, p3, p4, p5, p6])
      refine' tkk 2 rfl (by kernel_rfl) (fun _ _ _ h => h) (.inl ⟨by rfl, ?_⟩) (by assumption) ?_; rotate_left
      ·(intro w hSw; (try dsimp only at hSw); (try simp only [p1, p2, p3]); go_simp; first | done | with_reducible rfl)
      (try simp only [Act.put, p1, p2, p3, p4, p5, p6])
      refine' tkk 3 rfl (by kernel_rfl) (fun _ _ _ h => h) (.inl ⟨by rfl, ?_⟩) (by assumption) ?_; rotate_left
      ·(intro w hSw; (try dsimp only at hSw); (try simp only [p1, p2, p3]); go_simp; first | done | with_reducible rfl)
      (try simp only [Act.put, p1, p2, p3, p4, p5, p6])
      refine' tkk 4 rfl (by kernel_rfl) (fun _ _ _ h => h) (.inl ⟨by rfl, ?_⟩) (by assumption) ?_; rotate_left
      ·(intro w hSw; (try dsimp only at hSw); (try simp only [p1, p2, p3]); go_simp; first | done | with_reducible rfl)
      (try simp only [Act.put, p1, p2, p3, p4, p5, p6])
      refine' tkk 6 rfl (by kernel_rfl) (fun _ _ _ h => h) (.inl ⟨by rfl, ?_⟩) (by assumption) ?_; rotate_left
      ·(intro w hSw; (try dsimp only at hSw); (try simp only [p1, p2, p3]); go_simp; first | done | with_reducible rfl)
      (try simp only [Act.put, p1, p2, p3, p4, p5, p6])
      refine' tkk 7 rfl (by kernel_rfl) (fun _ _ _ h => h) (.inl ⟨by rfl, ?_⟩) (by assumption) ?_; rotate_left
      ·(intro w hSw; (try dsimp only at hSw); (try simp only [p1, p2, p3]); go_simp; first | done | with_reducible rfl)
      (try simp only [Act.put, p1, p2, p3, p4, p5, p6])
      refine wpAnyH_ready (rs := [5]) (by kernel_rfl) (by simp) ?_
      refine AllReadyH.cons rfl (fun K hK => ?_) AllReadyH.nil
      (try simp only [p1, p2, p3])
      go_simp
      have hk := And.right ‹_ ∧ Kp Y _›
      refine (TQ1.out _ hk).mono ?_
      rintro e v5 ⟨Xa1, xa2, xa3, Xa4, xa5, xa6, rfl, hk1, hk2, hW1, hW2, hF1, hF2, hbx⟩
      have hp : Kp Y v5 := Kp.trans hk hbx
      have hszz := Nat.le_trans HTY.out.1.size (Below.size hk)
      have cqa : CQ w.heap.size v5 sq' Xa1 xa2 xa3 Xa4 xa5 xa6 := ⟨hk1, hk2, hW1, hW2, hF1.mono hszz, hF2.mono hszz⟩
      clear hk hbx hk1 hk2 hW1 hW2 hF1 hF2 hszz
      (try (go_wp2_with fail))
      refine hK.out _ _ ?k4 (fun hHeld4 => ?n4)
      case k4 => ((try dsimp only); first | (with_reducible refine HS13.out _ ?_; with_reducible assumption) | (with_reducible refine HS13.out _ (Kp.drew ?_); with_reducible assumption) | (with_reducible refine' HS13.out _ (Kp.drew (And.right ?_)); rotate_left; with_reducible assumption))
      clear hK K
      (try simp only [Act.put, p1, p2, p3, p4, p5, p6])
      refine wpAnyH_ready (rs := [8]) (by kernel_rfl) (by simp) ?_
      refine AllReadyH.cons rfl (fun K hK => ?_) AllReadyH.nil
      (try simp only [p1, p2, p3])
      go_simp
      have hk := And.right ‹_ ∧ Kp Y _›
      refine (TM1.out _ hk).mono ?_
      rintro e v8 ⟨Xb1, xb2, xb3, Xb4, xb5, xb6, rfl, hk1, hk2, hW1, hW2, hF1, hF2, hbx⟩
      have hp : Kp Y v8 := Kp.trans hk hbx
      have hszz := Nat.le_trans HTY.out.1.size (Below.size hk)
      have cqb : CQ w.heap.size v8 sm' Xb1 xb2 xb3 Xb4 xb5 xb6 := ⟨hk1, hk2, hW1, hW2, hF1.mono hszz, hF2.mono hszz⟩
      (try replace cqa := cqa.below hbx)
      clear hk hbx hk1 hk2 hW1 hW2 hF1 hF2 hszz
      (try (go_wp2_with fail))
      refine hK.out _ _ ?k5 (fun hHeld5 => ?n5)
      case k5 => ((try dsimp only); first | (with_reducible refine HS13.out _ ?_; with_reducible assumption) | (with_reducible refine HS13.out _ (Kp.drew ?_); with_reducible assumption) | (with_reducible refine' HS13.out _ (Kp.drew (And.right ?_)); rotate_left; with_reducible assumption))
      clear hK K
      (try simp only [Act.put, p1, p2, p3, p4, p5, p6])
      refine wpAnyH_done (by kernel_rfl) ?_ _
      (try clear hHeld4)
      (try clear hHeld5)
      unfold Qfr
      dsimp only
      have hbq := Kp.blk hp HTY.out.2.2.2.1
      have hbm := Kp.blk hp HTY.out.2.1
      obtain ⟨_, _, _, _, f10, f11, f12, f13⟩ := hbq.four
      obtain ⟨_, _, _, _, f20, f21, f22, f23⟩ := hbm.four
      refine wpAny_ready (rs := [9]) (by kernel_rfl) (by simp) ?_
      refine AllReady.cons rfl (fun K hK => ?_) AllReady.nil
      (try simp only [List.getElem_toArray, List.getElem_cons_zero, List.getElem_cons_succ])
      go_simp
      refine hK _ _ ?_
      clear hK K
      (try simp only [Act.put, List.getElem_toArray, List.getElem_cons_zero, List.getElem_cons_succ, List.setIfInBounds_toArray, List.set_cons_zero, List.set_cons_succ])
      refine wpAny_ready (rs := [10]) (by kernel_rfl) (by simp) ?_
      refine AllReady.cons rfl (fun K hK => ?_) AllReady.nil
      (try simp only [List.getElem_toArray, List.getElem_cons_zero, List.getElem_cons_succ])
      go_simp
      refine hK _ _ ?_
      clear hK K
      (try simp only [Act.put, List.getElem_toArray, List.getElem_cons_zero, List.getElem_cons_succ, List.setIfInBounds_toArray, List.set_cons_zero, List.set_cons_succ])
      refine wpAny_done (by kernel_rfl) ?_ _
      have hp9 : TotR w (g9 + 1) (g9) sm' sq' Xb1 xb2 xb3 Xb4 xb5 xb6 Xa1 xa2 xa3 Xa4 xa5 xa6 (((((((((v8.setCell ⟨g9, 0, none⟩ (.bool (decide ((sq').num < 0)))).setCell ⟨g9, 1, none⟩ (.slice Xa1 xa2 xa3)).setCell ⟨g9, 2, none⟩ (.bool false)).setCell ⟨g9, 3, none⟩ (.slice Xa4 xa5 xa6)).setCell ⟨g9 + 1, 0, none⟩ (.bool (decide ((sm').num < 0)))).setCell ⟨g9 + 1, 1, none⟩ (.slice Xb1 xb2 xb3)).setCell ⟨g9 + 1, 2, none⟩ (.bool false)).setCell ⟨g9 + 1, 3, none⟩ (.slice Xb4 xb5 xb6))) := ((HTY.out.call hp).put2 (s2 := sq') HGQ.out hne1 cqa).put1 (m2 := sm') HGM.out hne2 (cqb.put4 (o := 0) (a := decide (sq'.num < 0)) (b := false) (B := Xa1) (B' := Xa4) (j := xa2) (d := xa3) (j' := xa5) (d' := xa6) hbq NoInt.four)
      have hk9 : Below w4.heap.size w4 (((((((((v8.setCell ⟨g9, 0, none⟩ (.bool (decide ((sq').num < 0)))).setCell ⟨g9, 1, none⟩ (.slice Xa1 xa2 xa3)).setCell ⟨g9, 2, none⟩ (.bool false)).setCell ⟨g9, 3, none⟩ (.slice Xa4 xa5 xa6)).setCell ⟨g9 + 1, 0, none⟩ (.bool (decide ((sm').num < 0)))).setCell ⟨g9 + 1, 1, none⟩ (.slice Xb1 xb2 xb3)).setCell ⟨g9 + 1, 2, none⟩ (.bool false)).setCell ⟨g9 + 1, 3, none⟩ (.slice Xb4 xb5 xb6))) := (show Below w4.heap.size w4 (qst (qst v8 (g9) 0 (decide (sq'.num < 0)) false Xa1 Xa4 xa2 xa3 xa5 xa6) (g9 + 1) 0 (decide (sm'.num < 0)) false Xb1 Xb4 xb2 xb3 xb5 xb6) from below_qst (below_qst (HKY.out.trans (Below.mono hp HKY.out.size)) (by have := HG4.out; omega)) (by have := HG4.out; omega))
      generalize ((((((((v8.setCell ⟨g9, 0, none⟩ (.bool (decide ((sq').num < 0)))).setCell ⟨g9, 1, none⟩ (.slice Xa1 xa2 xa3)).setCell ⟨g9, 2, none⟩ (.bool false)).setCell ⟨g9, 3, none⟩ (.slice Xa4 xa5 xa6)).setCell ⟨g9 + 1, 0, none⟩ (.bool (decide ((sm').num < 0)))).setCell ⟨g9 + 1, 1, none⟩ (.slice Xb1 xb2 xb3)).setCell ⟨g9 + 1, 2, none⟩ (.bool false)).setCell ⟨g9 + 1, 3, none⟩ (.slice Xb4 xb5 xb6)) = Y9 at *
      have HF := Lib.hid hp9
      have HK9 := Lib.hid hk9
      clear hp9 hk9 cqa cqb hp hbq hbm f10 f11 f12 f13 f20 f21 f22 f23 TQ1 TM1 HS13 HQY HBY HKY HTY z0 z1 z2 z3 hbY2
      have HGD2 := Lib.hid (show ∀ j, j < i + 1 → 0 ≤ gs[j]?.getD 0 ∧ gs[j]?.getD 0 ≤ ((qsum (ls[j]?.getD []) : Int) : Rat) from fun j hj => by
       by_cases hji : j < i
       ·exact HGD.out j hji
       ·obtain rfl : j = i := by omega
        exact HGI.out)
      clear HGD HGI HNM HNQ HCOL
      go_wp2_with fail
      go_roundw
      case rel => exact ⟨i + 1, Xb1, xb2, xb3, Xb4, xb5, xb6, Xa1, xa2, xa3, Xa4, xa5, xa6, by omega, by first | rfl | go_num, by rw [HSM1.out, HSQ1.out]; exact HF, HK9, HGD2⟩
      case measure => simp [intOf]; omega
     refine AllReadyH.cons rfl (fun K hK => ?_) ?_
     ·(try simp only [p1, p2, p3])
      go_simp
      have hk := And.right ‹_ ∧ Kp wz _›
      have hg12 := Below.size hk
      have hb12 := blk_hereS hk 42 #[.bool false, .slice none 0 0, .bool false, .slice none 0 0]
      (try simp only [sz_drewS] at hb12 hg12)
      clear hk
      refine hK.out _ _ ?k6 (fun hHeld6 => ?n6)
      case k6 => ((try dsimp only); first | (with_reducible refine HS10.out _ ?_; with_reducible assumption) | (with_reducible refine HS10.out _ (Kp.drew ?_); with_reducible assumption) | (with_reducible refine' HS10.out _ (Kp.drew (And.right ?_)); rotate_left; with_reducible assumption) | (with_reducible refine' HS10.out _ (Kp.alloc (And.right ?_) _); rotate_left; with_reducible assumption) | (with_reducible refine' HS10.out _ (kp_set4 (And.right ?_) hg12 _ _ _ _); rotate_left; with_reducible assumption) | (exact HS10.out _ (Kp.drew (Kp.alloc (Kp.refl wz) _))))
      clear hK K
      (try simp only [Act.put, p1, p2, p3, p4, p5, p6])
      refine wpAnyH_ready (rs := [8]) (by kernel_rfl) (by simp) ?_
      refine AllReadyH.cons rfl (fun K hK => ?_) AllReadyH.nil
      (try simp only [p1, p2, p3])
      go_simp
      have hk := And.right ‹_ ∧ Kp wz _›
      refine (TCO.out _ hk).mono ?_
      rintro e v8 ⟨N8, n8, o8, M8, p8, s8, rfl, hcq, hbx⟩
      have hp : Kp wz v8 := Kp.trans hk hbx
      (try replace hb12 := Blk.below hb12 hbx hb12.lt)
      have h8r := hcq.wq
      clear hcq
      clear hk hbx
      (try (go_wp2_with fail))
      refine hK.out _ _ ?k7 (fun hHeld7 => ?n7)
      case k7 => ((try dsimp only); first | (with_reducible refine HS10.out _ ?_; with_reducible assumption) | (with_reducible refine HS10.out _ (Kp.drew ?_); with_reducible assumption) | (with_reducible refine' HS10.out _ (Kp.drew (And.right ?_)); rotate_left; with_reducible assumption) | (with_reducible refine' HS10.out _ (Kp.alloc (And.right ?_) _); rotate_left; with_reducible assumption) | (with_reducible refine' HS10.out _ (kp_set4 (And.right ?_) hg12 _ _ _ _); rotate_left; with_reducible assumption) | (exact HS10.out _ (Kp.drew (Kp.alloc (Kp.refl wz) _))))
      clear hK K
      (try simp only [Act.put, p1, p2, p3, p4, p5, p6])
      refine' tkk 9 rfl (by kernel_rfl) (fun _ _ _ h => h) (.inl ⟨by rfl, ?_⟩) (by assumption) ?_; rotate_left
      ·(intro w hSw; (try dsimp only at hSw); (try simp only [p1, p2, p3]); go_simp; first | done | with_reducible rfl)
      (try simp only [Act.put, p1, p2, p3, p4, p5, p6])
      refine' tkk 10 rfl (by kernel_rfl) (fun _ _ _ h => h) (.inl ⟨by rfl, ?_⟩) (by assumption) ?_; rotate_left
      ·(intro w hSw; (try dsimp only at hSw); (try simp only [p1, p2, p3]); go_simp; first | done | with_reducible rfl)
      (try simp only [Act.put, p1, p2, p3, p4, p5, p6])
      refine' tkk 11 rfl (by kernel_rfl) (fun _ _ _ h => h) (.inl ⟨by rfl, ?_⟩) (by assumption) ?_; rotate_left
      ·(intro w hSw; (try dsimp only at hSw); (try simp only [p1, p2, p3]); go_simp; first | done | with_reducible rfl)
      (try simp only [Act.put, p1, p2, p3, p4, p5, p6])
      refine wpAnyH_ready (rs := [13]) (by kernel_rfl) (by simp) ?_
      refine AllReadyH.cons rfl (fun K hK => ?_) AllReadyH.nil
      have hk := And.right ‹_ ∧ Kp wz _›
      obtain ⟨_, _, _, _, i0, i1', i2', i3⟩ := hb12.four
      (try simp only [p1, p2, p3])
      go_simp
      refine hK.out _ _ ?k8 (fun hHeld8 => ?n8)
      case k8 => ((try dsimp only); first | (with_reducible refine HS10.out _ ?_; with_reducible assumption) | (with_reducible refine HS10.out _ (Kp.drew ?_); with_reducible assumption) | (with_reducible refine' HS10.out _ (Kp.drew (And.right ?_)); rotate_left; with_reducible assumption) | (with_reducible refine' HS10.out _ (Kp.alloc (And.right ?_) _); rotate_left; with_reducible assumption) | (with_reducible refine' HS10.out _ (kp_set4 (And.right ?_) hg12 _ _ _ _); rotate_left; with_reducible assumption) | (exact HS10.out _ (Kp.drew (Kp.alloc (Kp.refl wz) _))))
      clear hK K
      (try simp only [Act.put, p1, p2, p3, p4, p5, p6])
      refine' tkk 14 rfl (by kernel_rfl) (fun _ _ _ h => h) (.inl ⟨by rfl, ?_⟩) (by assumption) ?_; rotate_left
      ·(intro w hSw; (try dsimp only at hSw); (try simp only [p1, p2, p3]); go_simp; first | done | with_reducible rfl)
      (try simp only [Act.put, p1, p2, p3, p4, p5, p6])
      refine wpAnyH_done (by kernel_rfl) ?_ _
      (try clear hHeld6)
      (try clear hHeld7)
      (try clear hHeld8)
      clear HS10 TCO
      have hkY := kp_set4 hp hg12 (.bool (decide (co.num < 0))) (.slice N8 n8 o8) (.bool false) (.slice M8 p8 s8)
      have hbY := (show Blk (qst v8 wz.heap.size 0 (decide (co.num < 0)) false N8 M8 n8 o8 p8 s8) wz.heap.size 42 #[.bool (decide ((co).num < 0)), .slice N8 n8 o8, .bool false, .slice M8 p8 s8] from hb12.put4)
      have hqY := WQ.put4 (o := 0) (a := decide (co.num < 0)) (b := false) (B := N8) (B' := M8) (j := n8) (d := o8) (j' := p8) (d' := s8) h8r hb12 NoInt.four
      simp only [qst, Nat.zero_add] at hbY hqY
      clear hk hp hb12 hg12 i0 i1' i2' i3 h8r
      generalize (((v8.setCell ⟨wz.heap.size, 0, none⟩ (.bool (decide (co.num < 0)))).setCell ⟨wz.heap.size, 1, none⟩ (.slice N8 n8 o8)).setCell ⟨wz.heap.size, 2, none⟩ (.bool false)).setCell ⟨wz.heap.size, 3, none⟩ (.slice M8 p8 s8) = Y at *
      generalize hg12e : wz.heap.size = g12 at hbY ⊢
      have HTY := Lib.hid (HT.out.call hkY)
      have HKY := Lib.hid (HKW.out.trans (Below.mono hkY HKW.out.size))
      have HBY := Lib.hid hbY
      have HCO := Lib.hid hqY
      have z0 := (Below.cell hkY (p := ⟨b2, _, none⟩) hbr2).trans y0
      have z1 := (Below.cell hkY (p := ⟨b2, _, none⟩) hbr2).trans y1
      have z2 := (Below.cell hkY (p := ⟨b2, _, none⟩) hbr2).trans y2
      have z3 := (Below.cell hkY (p := ⟨b2, _, none⟩) hbr2).trans y3
      have hbY2 : b2 < Y.heap.size := Nat.lt_of_lt_of_le hbr2 (Below.size hkY)
      have HQY := Lib.hid (HQS.out.below hkY)
      have TQ1 := Lib.hid (fun (W : World) (hW : Kp Y W) => add_s (s := 1000) (by decide) (RQ.qs (WQ.below HTY.out.2.2.2.2.wq hW) HSQ0.out (by decide)) ((HQY.out.below hW).mono (by decide)))
      have TM1 := Lib.hid (fun (W : World) (hW : Kp Y W) => add_s (s := 1000) (by decide) (RQ.qs (WQ.below HTY.out.2.2.1.wq hW) HSM0.out (by decide)) (RQ.qs (WQ.below HCO.out hW) (HCOL.out.mono (by decide)) (by decide)))
      rw [← HNQ.out] at TQ1
      rw [← HNM.out] at TM1
      have HSQE : Hid (qtyA gs (i + 1) = qtyA gs (i + 1)) := Lib.hid rfl
      generalize hsqe : qtyA gs (i + 1) = sq' at *
      generalize hsme : moneyA ls gs (i + 1) = sm' at *
      have HSQ1 := Lib.hid hsqe
      have HSM1 := Lib.hid hsme
      generalize qtyA gs i = sq at *
      generalize moneyA ls gs i = sm at *
      clear hsqe hsme HSQE hbY hqY HT HKW HQS HSQ0 HSM0 hkY HCO y0 y1 y2 y3 hcl hbr hbr2
      go_wp2_with fail
      have HS13 := Lib.hid (show ∀ w', Kp Y w' → (w'.cell? ⟨g9, 0, none⟩ = some (.bool (decide (sq.num < 0))) ∧ w'.cell? ⟨g9, 1, none⟩ = some (.slice R1 j3 d3) ∧ w'.cell? ⟨g9, 2, none⟩ = some (.bool false) ∧ w'.cell? ⟨g9, 3, none⟩ = some (.slice R2 j4 d4) ∧ w'.cell? ⟨g9 + 1, 0, none⟩ = some (.bool (decide (sm.num < 0))) ∧ w'.cell? ⟨g9 + 1, 1, none⟩ = some (.slice P1 j1 d1) ∧ w'.cell? ⟨g9 + 1, 2, none⟩ = some (.bool false) ∧ w'.cell? ⟨g9 + 1, 3, none⟩ = some (.slice P2 j2 d2) ∧ w'.cell? ⟨g12, 0, none⟩ = some (.bool (decide (co.num < 0))) ∧ w'.cell? ⟨g12, 1, none⟩ = some (.slice N8 n8 o8) ∧ w'.cell? ⟨g12, 2, none⟩ = some (.bool false) ∧ w'.cell? ⟨g12, 3, none⟩ = some (.slice M8 p8 s8) ∧ w'.cell? ⟨b2, o2 + i * 4, none⟩ = some (.bool an) ∧ w'.cell? ⟨b2, o2 + i * 4 + 1, none⟩ = some (.slice aA ak ac) ∧ w'.cell? ⟨b2, o2 + i * 4 + 2, none⟩ = some (.bool an') ∧ w'.cell? ⟨b2, o2 + i * 4 + 3, none⟩ = some (.slice aA' ak' ac')) ∧ Kp Y w' from fun w' hk => ⟨⟨(Kp.blk hk HTY.out.2.2.2.1).cell 0, (Kp.blk hk HTY.out.2.2.2.1).cell 1, (Kp.blk hk HTY.out.2.2.2.1).cell 2, (Kp.blk hk HTY.out.2.2.2.1).cell 3, (Kp.blk hk HTY.out.2.1).cell 0, (Kp.blk hk HTY.out.2.1).cell 1, (Kp.blk hk HTY.out.2.1).cell 2, (Kp.blk hk HTY.out.2.1).cell 3, (Kp.blk hk HBY.out).cell 0, (Kp.blk hk HBY.out).cell 1, (Kp.blk hk HBY.out).cell 2, (Kp.blk hk HBY.out).cell 3, (Below.cell hk (p := ⟨b2, _, none⟩) hbY2).trans z0, (Below.cell hk (p := ⟨b2, _, none⟩) hbY2).trans z1, (Below.cell hk (p := ⟨b2, _, none⟩) hbY2).trans z2, (Below.cell hk (p := ⟨b2, _, none⟩) hbY2).trans z3⟩, hk⟩)
      refine wp_region_front 9 2 _ (fun w' => (w'.cell? ⟨g9, 0, none⟩ = some (.bool (decide (sq.num < 0))) ∧ w'.cell? ⟨g9, 1, none⟩ = some (.slice R1 j3 d3) ∧ w'.cell? ⟨g9, 2, none⟩ = some (.bool false) ∧ w'.cell? ⟨g9, 3, none⟩ = some (.slice R2 j4 d4) ∧ w'.cell? ⟨g9 + 1, 0, none⟩ = some (.bool (decide (sm.num < 0))) ∧ w'.cell? ⟨g9 + 1, 1, none⟩ = some (.slice P1 j1 d1) ∧ w'.cell? ⟨g9 + 1, 2, none⟩ = some (.bool false) ∧ w'.cell? ⟨g9 + 1, 3, none⟩ = some (.slice P2 j2 d2) ∧ w'.cell? ⟨g12, 0, none⟩ = some (.bool (decide (co.num < 0))) ∧ w'.cell? ⟨g12, 1, none⟩ = some (.slice N8 n8 o8) ∧ w'.cell? ⟨g12, 2, none⟩ = some (.bool false) ∧ w'.cell? ⟨g12, 3, none⟩ = some (.slice M8 p8 s8) ∧ w'.cell? ⟨b2, o2 + i * 4, none⟩ = some (.bool an) ∧ w'.cell? ⟨b2, o2 + i * 4 + 1, none⟩ = some (.slice aA ak ac) ∧ w'.cell? ⟨b2, o2 + i * 4 + 2, none⟩ = some (.bool an') ∧ w'.cell? ⟨b2, o2 + i * 4 + 3, none⟩ = some (.slice aA' ak' ac')) ∧ Kp Y w') (by kernel_rfl) (by kernel_rfl) rfl (HS13.out _ (Kp.drew (Kp.refl Y))) (fun hHeld => ?_)
      simp only [List.toList_toArray, List.take_succ_cons, List.take_zero]
      refine' tkk 0 rfl (by kernel_rfl) (fun _ _ _ h => h) (.inl ⟨by rfl, ?_⟩) (by assumption) ?_; rotate_left
      ·(intro w hSw; (try dsimp only at hSw); (try simp only [p1, p2, p3]); go_simp; first | done | with_reducible rfl)
      (try simp only [Act.put, p1, p2, p3, p4, p5, p6])
      refine' tkk 1 rfl (by kernel_rfl) (fun _ _ _ h => h) (.inl ⟨by rfl, ?_⟩) (by assumption) ?_; rotate_left
      ·(intro w hSw; (try dsimp only at hSw); (try simp only [p1, p2, p3]); go_simp; first | done | with_reducible rfl)
      (try simp only [Act.put, p1, p2, p3, p4, p5, p6])
      refine' tkk 2 rfl (by kernel_rfl) (fun _ _ _ h => h) (.inl ⟨by rfl, ?_⟩) (by assumption) ?_; rotate_left
      ·(intro w hSw; (try dsimp only at hSw); (try simp only [p1, p2, p3]); go_simp; first | done | with_reducible rfl)
      (try simp only [Act.put, p1, p2, p3, p4, p5, p6])
      refine' tkk 3 rfl (by kernel_rfl) (fun _ _ _ h => h) (.inl ⟨by rfl, ?_⟩) (by assumption) ?_; rotate_left
      ·(intro w hSw; (try dsimp only at hSw); (try simp only [p1, p2, p3]); go_simp; first | done | with_reducible rfl)
      (try simp only [Act.put, p1, p2, p3, p4, p5, p6])
      refine' tkk 4 rfl (by kernel_rfl) (fun _ _ _ h => h) (.inl ⟨by rfl, ?_⟩) (by assumption) ?_; rotate_left
      ·(intro w hSw; (try dsimp only at hSw); (try simp only [p1, p2, p3]); go_simp; first | done | with_reducible rfl)
      (try simp only [Act.put, p1, p2, p3, p4, p5, p6])
      refine' tkk 6 rfl (by kernel_rfl) (fun _ _ _ h => h) (.inl ⟨by rfl, ?_⟩) (by assumption) ?_; rotate_left
      ·(intro w hSw; (try dsimp only at hSw); (try simp only [p1, p2, p3]); go_simp; first | done | with_reducible rfl)
      (try simp only [Act.put, p1, p2, p3, p4, p5, p6])
      refine' tkk 7 rfl (by kernel_rfl) (fun _ _ _ h => h) (.inl ⟨by rfl, ?_⟩) (by assumption) ?_; rotate_left
      ·(intro w hSw; (try dsimp only at hSw); (try simp only [p1, p2, p3]); go_simp; first | done | with_reducible rfl)
      (try simp only [Act.put, p1, p2, p3, p4, p5, p6])
      refine wpAnyH_ready (rs := [5]) (by kernel_rfl) (by simp) ?_
      refine AllReadyH.cons rfl (fun K hK => ?_) AllReadyH.nil
      (try simp only [p1, p2, p3])
      go_simp
      have hk := And.right ‹_ ∧ Kp Y _›
      refine (TQ1.out _ hk).mono ?_
      rintro e v5 ⟨Xa1, xa2, xa3, Xa4, xa5, xa6, rfl, hk1, hk2, hW1, hW2, hF1, hF2, hbx⟩
      have hp : Kp Y v5 := Kp.trans hk hbx
      have hszz := Nat.le_trans HTY.out.1.size (Below.size hk)
      have cqa : CQ w.heap.size v5 sq' Xa1 xa2 xa3 Xa4 xa5 xa6 := ⟨hk1, hk2, hW1, hW2, hF1.mono hszz, hF2.mono hszz⟩
      clear hk hbx hk1 hk2 hW1 hW2 hF1 hF2 hszz
      (try (go_wp2_with fail))
      refine hK.out _ _ ?k9 (fun hHeld9 => ?n9)
      case k9 => ((try dsimp only); first | (with_reducible refine HS13.out _ ?_; with_reducible assumption) | (with_reducible refine HS13.out _ (Kp.drew ?_); with_reducible assumption) | (with_reducible refine' HS13.out _ (Kp.drew (And.right ?_)); rotate_left; with_reducible assumption))
      clear hK K
      (try simp only [Act.put, p1, p2, p3, p4, p5, p6])
      refine wpAnyH_ready (rs := [8]) (by kernel_rfl) (by simp) ?_
      refine AllReadyH.cons rfl (fun K hK => ?_) AllReadyH.nil
      (try simp only [p1, p2, p3])
      go_simp
      have hk := And.right ‹_ ∧ Kp Y _›
      refine (TM1.out _ hk).mono ?_
      rintro e v8 ⟨Xb1, xb2, xb3, Xb4, xb5, xb6, rfl, hk1, hk2, hW1, hW2, hF1, hF2, hbx⟩
      have hp : Kp Y v8 := Kp.trans hk hbx
      have hszz := Nat.le_trans HTY.out.1.size (Below.size hk)
      have cqb : CQ w.heap.size v8 sm' Xb1 xb2 xb3 Xb4 xb5 xb6 := ⟨hk1, hk2, hW1, hW2, hF1.mono hszz, hF2.mono hszz⟩
      (try replace cqa := cqa.below hbx)
      clear hk hbx hk1 hk2 hW1 hW2 hF1 hF2 hszz
      (try (go_wp2_with fail))
      refine hK.out _ _ ?k10 (fun hHeld10 => ?n10)
      case k10 => ((try dsimp only); first | (with_reducible refine HS13.out _ ?_; with_reducible assumption) | (with_reducible refine HS13.out _ (Kp.drew ?_); with_reducible assumption) | (with_reducible refine' HS13.out _ (Kp.drew (And.right ?_)); rotate_left; with_reducible assumption))
      clear hK K
      (try simp only [Act.put, p1, p2, p3, p4, p5, p6])
      refine wpAnyH_done (by kernel_rfl) ?_ _
      (try clear hHeld9)
      (try clear hHeld10)
      unfold Qfr
      dsimp only
      have hbq := Kp.blk hp HTY.out.2.2.2.1
      have hbm := Kp.blk hp HTY.out.2.1
      obtain ⟨_, _, _, _, f10, f11, f12, f13⟩ := hbq.four
      obtain ⟨_, _, _, _, f20, f21, f22, f23⟩ := hbm.four
      refine wpAny_ready (rs := [9]) (by kernel_rfl) (by simp) ?_
      refine AllReady.cons rfl (fun K hK => ?_) AllReady.nil
      (try simp only [List.getElem_toArray, List.getElem_cons_zero, List.getElem_cons_succ])
      go_simp
      refine hK _ _ ?_
      clear hK K
      (try simp only [Act.put, List.getElem_toArray, List.getElem_cons_zero, List.getElem_cons_succ, List.setIfInBounds_toArray, List.set_cons_zero, List.set_cons_succ])
      refine wpAny_ready (rs := [10]) (by kernel_rfl) (by simp) ?_
      refine AllReady.cons rfl (fun K hK => ?_) AllReady.nil
      (try simp only [List.getElem_toArray, List.getElem_cons_zero, List.getElem_cons_succ])
      go_simp
      refine hK _ _ ?_
      clear hK K
      (try simp only [Act.put, List.getElem_toArray, List.getElem_cons_zero, List.getElem_cons_succ, List.setIfInBounds_toArray, List.set_cons_zero, List.set_cons_succ])
      refine wpAny_done (by kernel_rfl) ?_ _
      have hp9 : TotR w (g9 + 1) (g9) sm' sq' Xb1 xb2 xb3 Xb4 xb5 xb6 Xa1 xa2 xa3 Xa4 xa5 xa6 (((((((((v8.setCell ⟨g9, 0, none⟩ (.bool (decide ((sq').num < 0)))).setCell ⟨g9, 1, none⟩ (.slice Xa1 xa2 xa3)).setCell ⟨g9, 2, none⟩ (.bool false)).setCell ⟨g9, 3, none⟩ (.slice Xa4 xa5 xa6)).setCell ⟨g9 + 1, 0, none⟩ (.bool (decide ((sm').num < 0)))).setCell ⟨g9 + 1, 1, none⟩ (.slice Xb1 xb2 xb3)).setCell ⟨g9 + 1, 2, none⟩ (.bool false)).setCell ⟨g9 + 1, 3, none⟩ (.slice Xb4 xb5 xb6))) := ((HTY.out.call hp).put2 (s2 := sq') HGQ.out hne1 cqa).put1 (m2 := sm') HGM.out hne2 (cqb.put4 (o := 0) (a := decide (sq'.num < 0)) (b := false) (B := Xa1) (B' := Xa4) (j := xa2) (d := xa3) (j' := xa5) (d' := xa6) hbq NoInt.four)
      have hk9 : Below w4.heap.size w4 (((((((((v8.setCell ⟨g9, 0, none⟩ (.bool (decide ((sq').num < 0)))).setCell ⟨g9, 1, none⟩ (.slice Xa1 xa2 xa3)).setCell ⟨g9, 2, none⟩ (.bool false)).setCell ⟨g9, 3, none⟩ (.slice Xa4 xa5 xa6)).setCell ⟨g9 + 1, 0, none⟩ (.bool (decide ((sm').num < 0)))).setCell ⟨g9 + 1, 1, none⟩ (.slice Xb1 xb2 xb3)).setCell ⟨g9 + 1, 2, none⟩ (.bool false)).setCell ⟨g9 + 1, 3, none⟩ (.slice Xb4 xb5 xb6))) := (show Below w4.heap.size w4 (qst (qst v8 (g9) 0 (decide (sq'.num < 0)) false Xa1 Xa4 xa2 xa3 xa5 xa6) (g9 + 1) 0 (decide (sm'.num < 0)) false Xb1 Xb4 xb2 xb3 xb5 xb6) from below_qst (below_qst (HKY.out.trans (Below.mono hp HKY.out.size)) (by have := HG4.out; omega)) (by have := HG4.out; omega))
      generalize ((((((((v8.setCell ⟨g9, 0, none⟩ (.bool (decide ((sq').num < 0)))).setCell ⟨g9, 1, none⟩ (.slice Xa1 xa2 xa3)).setCell ⟨g9, 2, none⟩ (.bool false)).setCell ⟨g9, 3, none⟩ (.slice Xa4 xa5 xa6)).setCell ⟨g9 + 1, 0, none⟩ (.bool (decide ((sm').num < 0)))).setCell ⟨g9 + 1, 1, none⟩ (.slice Xb1 xb2 xb3)).setCell ⟨g9 + 1, 2, none⟩ (.bool false)).setCell ⟨g9 + 1, 3, none⟩ (.slice Xb4 xb5 xb6)) = Y9 at *
      have HF := Lib.hid hp9
      have HK9 := Lib.hid hk9
      clear hp9 hk9 cqa cqb hp hbq hbm f10 f11 f12 f13 f20 f21 f22 f23 TQ1 TM1 HS13 HQY HBY HKY HTY z0 z1 z2 z3 hbY2
      have HGD2 := Lib.hid (show ∀ j, j < i + 1 → 0 ≤ gs[j]?.getD 0 ∧ gs[j]?.getD 0 ≤ ((qsum (ls[j]?.getD []) : Int) : Rat) from fun j hj => by
       by_cases hji : j < i
       ·exact HGD.out j hji
       ·obtain rfl : j = i := by omega
        exact HGI.out)
      clear HGD HGI HNM HNQ HCOL
      go_wp2_with fail
      go_roundw
      case rel => exact ⟨i + 1, Xb1, xb2, xb3, Xb4, xb5, xb6, Xa1, xa2, xa3, Xa4, xa5, xa6, by omega, by first | rfl | go_num, by rw [HSM1.out, HSQ1.out]; exact HF, HK9, HGD2⟩
      case measure => simp [intOf]; omega
     exact AllReadyH.nil
    ·have TCO := Lib.hid (fun W (hW : Kp wz W) => scost_no A' n' c' _ W (hst.below hW) hce an an' aA aA' ak ac ak' ac' _ (hqs.below hW).arg (by
      by_cases h0 : gs[i]?.getD 0 < 0
      ·exact Or.inl h0
      ·refine Or.inr ?_
       have : ¬ gs[i]?.getD 0 ≤ ((qsum (ls[i]?.getD []) : Int) : Rat) := fun hh => hgd ⟨by grind, hh⟩
       grind))
     clear hc1 hc2 hst hqs hce hgd hb0 hb02 e'
     go_wp2_with fail
     have HS10 := Lib.hid (show ∀ w', Kp wz w' → (w'.cell? ⟨b, o + i, none⟩ = some (.slice A' n' c') ∧ w'.cell? ⟨b2, o2 + i * 4, none⟩ = some (.bool an) ∧ w'.cell? ⟨b2, o2 + i * 4 + 1, none⟩ = some (.slice aA ak ac) ∧ w'.cell? ⟨b2, o2 + i * 4 + 2, none⟩ = some (.bool an') ∧ w'.cell? ⟨b2, o2 + i * 4 + 3, none⟩ = some (.slice aA' ak' ac')) ∧ Kp wz w' from fun w' hk => ⟨⟨(Below.cell hk (p := ⟨b, _, none⟩) hbr).trans hcl, (Below.cell hk (p := ⟨b2, _, none⟩) hbr2).trans y0, (Below.cell hk (p := ⟨b2, _, none⟩) hbr2).trans y1, (Below.cell hk (p := ⟨b2, _, none⟩) hbr2).trans y2, (Below.cell hk (p := ⟨b2, _, none⟩) hbr2).trans y3⟩, hk⟩)
     refine wp_region_held_drew (S := fun w' => (w'.cell? ⟨b, o + i, none⟩ = some (.slice A' n' c') ∧ w'.cell? ⟨b2, o2 + i * 4, none⟩ = some (.bool an) ∧ w'.cell? ⟨b2, o2 + i * 4 + 1, none⟩ = some (.slice aA ak ac) ∧ w'.cell? ⟨b2, o2 + i * 4 + 2, none⟩ = some (.bool an') ∧ w'.cell? ⟨b2, o2 + i * 4 + 3, none⟩ = some (.slice aA' ak' ac')) ∧ Kp wz w') (by kernel_rfl) (HS10.out _ (Kp.drew (Kp.refl wz))) (fun hHeld => ?_)
     refine' tkk 0 rfl (by kernel_rfl) (fun _ _ _ h => h) (.inl ⟨by rfl, ?_⟩) (by assumption) ?_; rotate_left
     ·(intro w hSw; (try dsimp only at hSw); (try simp only [p1, p2, p3]); go_simp; first | done | with_reducible rfl)
     (try simp only [Act.put, p1, p2, p3, p4, p5, p6])
     refine' tkk 1 rfl (by kernel_rfl) (fun _ _ _ h => h) (.inl ⟨by rfl, ?_⟩) (by assumption) ?_; rotate_left
     ·(intro w hSw; (try dsimp only at hSw); (try simp only [p1, p2, p3]); go_simp; first | done | with_reducible rfl)
     (try simp only [Act.put, p1, p2, p3, p4, p5, p6])
     refine' tkk 2 rfl (by kernel_rfl) (fun _ _ _ h => h) (.inl ⟨by rfl, ?_⟩) (by assumption) ?_; rotate_left
     ·(intro w hSw; (try dsimp only at hSw); (try simp only [p1, p2, p3]); go_simp; first | done | with_reducible rfl)
     (try simp only [Act.put, p1, p2, p3, p4, p5, p6])
     refine' tkk 3 rfl (by kernel_rfl) (fun _ _ _ h => h) (.inl ⟨by rfl, ?_⟩) (by assumption) ?_; rotate_left
     ·(intro w hSw; (try dsimp only at hSw); (try simp only [p1, p2, p3]); go_simp; first | done | with_reducible rfl)
     (try simp only [Act.put, p1, p2, p3, p4, p5, p6])
     refine' tkk 4 rfl (by kernel_rfl) (fun _ _ _ h => h) (.inl ⟨by rfl, ?_⟩) (by assumption) ?_; rotate_left
     ·(intro w hSw; (try dsimp only at hSw); (try simp only [p1, p2, p3]); go_simp; first | done | with_reducible rfl)
     (try simp only [Act.put, p1, p2, p3, p4, p5, p6])
     refine' tkk 5 rfl (by kernel_rfl) (fun _ _ _ h => h) (.inl ⟨by rfl, ?_⟩) (by assumption) ?_; rotate_left
     ·(intro w hSw; (try dsimp only at hSw); (try simp only [p1, p2, p3]); go_simp; first | done | with_reducible rfl)
     (try simp only [Act.put, p1, p2, p3, p4, p5, p6])
     refine' tkk 6 rfl (by kernel_rfl) (fun _ _ _ h => h) (.inl ⟨by rfl, ?_⟩) (by assumption) ?_; rotate_left
     ·(intro w hSw; (try dsimp only at hSw); (try simp only [p1, p2, p3]); go_simp; first | done | with_reducible rfl)
     (try simp only [Act.put, p1, p2, p3, p4, p5, p6])
     refine' tkk 7 rfl (by kernel_rfl) (fun _ _ _ h => h) (.inl ⟨by rfl, ?_⟩) (by assumption) ?_; rotate_left
     ·(intro w hSw; (try dsimp only at hSw); (try simp only [p1, p2, p3]); go_simp; first | done | with_reducible rfl)
     (try simp only [Act.put, p1, p2, p3, p4, p5, p6])
     refine wpAnyH_ready (rs := [8, 12]) (by kernel_rfl) (by simp) ?_
     refine AllReadyH.cons rfl (fun K hK => ?_) ?_
     ·(try simp only [p1, p2, p3])
      go_simp
      have hk := And.right ‹_ ∧ Kp wz _›
      refine (TCO.out _ hk).mono ?_
      rintro e v8 ⟨rfl, hbx⟩
      have hp : Kp wz v8 := Kp.trans hk hbx
      (try replace hb12 := Blk.below hb12 hbx hb12.lt)
      clear hk hbx
      (try (go_wp2_with fail))
      refine hK.out _ _ ?k11 (fun hHeld11 => ?n11)
      case k11 => ((try dsimp only); first | (with_reducible refine HS10.out _ ?_; with_reducible assumption) | (with_reducible refine HS10.out _ (Kp.drew ?_); with_reducible assumption) | (with_reducible refine' HS10.out _ (Kp.drew (And.right ?_)); rotate_left; with_reducible assumption) | (with_reducible refine' HS10.out _ (Kp.alloc (And.right ?_) _); rotate_left; with_reducible assumption) | (with_reducible refine' HS10.out _ (kp_set4 (And.right ?_) hg12 _ _ _ _); rotate_left; with_reducible assumption) | (exact HS10.out _ (Kp.drew (Kp.alloc (Kp.refl wz) _))))
      clear hK K
      (try simp only [Act.put, p1, p2, p3, p4, p5, p6])
      refine' tkk 9 rfl (by kernel_rfl) (fun _ _ _ h => h) (.inl ⟨by rfl, ?_⟩) (by assumption) ?_; rotate_left
      ·(intro w hSw; (try dsimp only at hSw); (try simp only [p1, p2, p3]); go_simp; first | done | with_reducible rfl)
      (try simp only [Act.put, p1, p2, p3, p4, p5, p6])
      refine' tkk 10 rfl (by kernel_rfl) (fun _ _ _ h => h) (.inl ⟨by rfl, ?_⟩) (by assumption) ?_; rotate_left
      ·(intro w hSw; (try dsimp only at hSw); (try simp only [p1, p2, p3]); go_simp; first | done | with_reducible rfl)
      (try simp only [Act.put, p1, p2, p3, p4, p5, p6])
      refine' tkk 11 rfl (by kernel_rfl) (fun _ _ _ h => h) (.inl ⟨by rfl, ?_⟩) (by assumption) ?_; rotate_left
      ·(intro w hSw; (try dsimp only at hSw); (try simp only [p1, p2, p3]); go_simp; first | done | with_reducible rfl)
      (try simp only [Act.put, p1, p2, p3, p4, p5, p6])
      refine wpAnyH_ready (rs := [12]) (by kernel_rfl) (by simp) ?_
      refine AllReadyH.cons rfl (fun K hK => ?_) AllReadyH.nil
      (try simp only [p1, p2, p3])
      go_simp
      have hk := And.right ‹_ ∧ Kp wz _›
      have hg12 := Below.size hk
      have hb12 := blk_hereS hk 42 #[.bool false, .slice none 0 0, .bool false, .slice none 0 0]
      (try simp only [sz_drewS] at hb12 hg12)
      clear hk
      refine hK.out _ _ ?k12 (fun hHeld12 => ?n12)
      case k12 => ((try dsimp only); first | (with_reducible refine HS10.out _ ?_; with_reducible assumption) | (with_reducible refine HS10.out _ (Kp.drew ?_); with_reducible assumption) | (with_reducible refine' HS10.out _ (Kp.drew (And.right ?_)); rotate_left; with_reducible assumption) | (with_reducible refine' HS10.out _ (Kp.alloc (And.right ?_) _); rotate_left; with_reducible assumption) | (with_reducible refine' HS10.out _ (kp_set4 (And.right ?_) hg12 _ _ _ _); rotate_left; with_reducible assumption) | (exact HS10.out _ (Kp.drew (Kp.alloc (Kp.refl wz) _))))
      clear hK K
      (try simp only [Act.put, p1, p2, p3, p4, p5, p6])
      refine wpAnyH_ready (rs := [13]) (by kernel_rfl) (by simp) ?_
      refine AllReadyH.cons rfl (fun K hK => ?_) AllReadyH.nil
      have hk := And.right ‹_ ∧ Kp wz _›
      obtain ⟨_, _, _, _, i0, i1', i2', i3⟩ := hb12.four
      (try simp only [p1, p2, p3])
      go_simp
      refine hK.out _ _ ?k13 (fun hHeld13 => ?n13)
      case k13 => ((try dsimp only); first | (with_reducible refine HS10.out _ ?_; with_reducible assumption) | (with_reducible refine HS10.out _ (Kp.drew ?_); with_reducible assumption) | (with_reducible refine' HS10.out _ (Kp.drew (And.right ?_)); rotate_left; with_reducible assumption) | (with_reducible refine' HS10.out _ (Kp.alloc (And.right ?_) _); rotate_left; with_reducible assumption) | (with_reducible refine' HS10.out _ (kp_set4 (And.right ?_) hg12 _ _ _ _); rotate_left; with_reducible assumption) | (exact HS10.out _ (Kp.drew (Kp.alloc (Kp.refl wz) _))))
      clear hK K
      (try simp only [Act.put, p1, p2, p3, p4, p5, p6])
      refine' tkk 14 rfl (by kernel_rfl) (fun _ _ _ h => h) (.inl ⟨by rfl, ?_⟩) (by assumption) ?_; rotate_left
      ·(intro w hSw; (try dsimp only at hSw); (try simp only [p1, p2, p3]); go_simp; first | done | with_reducible rfl)
      (try simp only [Act.put, p1, p2, p3, p4, p5, p6])
      refine wpAnyH_done (by kernel_rfl) ?_ _
      (try clear hHeld11)
      (try clear hHeld12)
      (try clear hHeld13)
      clear HS10 TCO
      have hkY := Kp.alloc hp (.cells #[.bool false, .slice none 0 0, .bool false, .slice none 0 0] 42)
      have hbY := Blk.new v8 42 #[.bool false, .slice none 0 0, .bool false, .slice none 0 0]
      clear hk hp hb12 hg12 i0 i1' i2' i3
      generalize v8.alloc (.cells #[.bool false, .slice none 0 0, .bool false, .slice none 0 0] 42) = Y at *
      generalize v8.heap.size = g12 at *
      have HF := Lib.hid (HT.out.1.trans (Below.mono hkY HT.out.1.size))
      clear hkY hbY
      clear HT HKW HGD HX HQR HLQ HB4 HG1 HLV
      clear hcl y0 y1 y2 y3 hbr hbr2
      go_wp2_with fail
      go_ret
      exact ⟨rfl, HF.out⟩
     refine AllReadyH.cons rfl (fun K hK => ?_) ?_
     ·(try simp only [p1, p2, p3])
      go_simp
      have hk := And.right ‹_ ∧ Kp wz _›
      have hg12 := Below.size hk
      have hb12 := blk_hereS hk 42 #[.bool false, .slice none 0 0, .bool false, .slice none 0 0]
      (try simp only [sz_drewS] at hb12 hg12)
      clear hk
      refine hK.out _ _ ?k14 (fun hHeld14 => ?n14)
      case k14 => ((try dsimp only); first | (with_reducible refine HS10.out _ ?_; with_reducible assumption) | (with_reducible refine HS10.out _ (Kp.drew ?_); with_reducible assumption) | (with_reducible refine' HS10.out _ (Kp.drew (And.right ?_)); rotate_left; with_reducible assumption) | (with_reducible refine' HS10.out _ (Kp.alloc (And.right ?_) _); rotate_left; with_reducible assumption) | (with_reducible refine' HS10.out _ (kp_set4 (And.right ?_) hg12 _ _ _ _); rotate_left; with_reducible assumption) | (exact HS10.out _ (Kp.drew (Kp.alloc (Kp.refl wz) _))))
      clear hK K
      (try simp only [Act.put, p1, p2, p3, p4, p5, p6])
      refine wpAnyH_ready (rs := [8]) (by kernel_rfl) (by simp) ?_
      refine AllReadyH.cons rfl (fun K hK => ?_) AllReadyH.nil
      (try simp only [p1, p2, p3])
      go_simp
      have hk := And.right ‹_ ∧ Kp wz _›
      refine (TCO.out _ hk).mono ?_
      rintro e v8 ⟨rfl, hbx⟩
      have hp : Kp wz v8 := Kp.trans hk hbx
      (try replace hb12 := Blk.below hb12 hbx hb12.lt)
      clear hk hbx
      (try (go_wp2_with fail))
      refine hK.out _ _ ?k15 (fun hHeld15 => ?n15)
      case k15 => ((try dsimp only); first | (with_reducible refine HS10.out _ ?_; with_reducible assumption) | (with_reducible refine HS10.out _ (Kp.drew ?_); with_reducible assumption) | (with_reducible refine' HS10.out _ (Kp.drew (And.right ?_)); rotate_left; with_reducible assumption) | (with_reducible refine' HS10.out _ (Kp.alloc (And.right ?_) _); rotate_left; with_reducible assumption) | (with_reducible refine' HS10.out _ (kp_set4 (And.right ?_) hg12 _ _ _ _); rotate_left; with_reducible assumption) | (exact HS10.out _ (Kp.drew (Kp.alloc (Kp.refl wz) _))))
      clear hK K
      (try simp only [Act.put, p1, p2, p3, p4, p5, p6])
      refine' tkk 9 rfl (by kernel_rfl) (fun _ _ _ h => h) (.inl ⟨by rfl, ?_⟩) (by assumption) ?_; rotate_left
      ·(intro w hSw; (try dsimp only at hSw); (try simp only [p1, p2, p3]); go_simp; first | done | with_reducible rfl)
      (try simp only [Act.put, p1, p2, p3, p4, p5, p6])
      refine' tkk 10 rfl (by kernel_rfl) (fun _ _ _ h => h) (.inl ⟨by rfl, ?_⟩) (by assumption) ?_; rotate_left
      ·(intro w hSw; (try dsimp only at hSw); (try simp only [p1, p2, p3]); go_simp; first | done | with_reducible rfl)
      (try simp only [Act.put, p1, p2, p3, p4, p5, p6])
      refine' tkk 11 rfl (by kernel_rfl) (fun _ _ _ h => h) (.inl ⟨by rfl, ?_⟩) (by assumption) ?_; rotate_left
      ·(intro w hSw; (try dsimp only at hSw); (try simp only [p1, p2, p3]); go_simp; first | done | with_reducible rfl)
      (try simp only [Act.put, p1, p2, p3, p4, p5, p6])
      refine wpAnyH_ready (rs := [13]) (by kernel_rfl) (by simp) ?_
      refine AllReadyH.cons rfl (fun K hK => ?_) AllReadyH.nil
      have hk := And.right ‹_ ∧ Kp wz _›
      obtain ⟨_, _, _, _, i0, i1', i2', i3⟩ := hb12.four
      (try simp only [p1, p2, p3])
      go_simp
      refine hK.out _ _ ?k16 (fun hHeld16 => ?n16)
      case k16 => ((try dsimp only); first | (with_reducible refine HS10.out _ ?_; with_reducible assumption) | (with_reducible refine HS10.out _ (Kp.drew ?_); with_reducible assumption) | (with_reducible refine' HS10.out _ (Kp.drew (And.right ?_)); rotate_left; with_reducible assumption) | (with_reducible refine' HS10.out _ (Kp.alloc (And.right ?_) _); rotate_left; with_reducible assumption) | (with_reducible refine' HS10.out _ (kp_set4 (And.right ?_) hg12 _ _ _ _); rotate_left; with_reducible assumption) | (exact HS10.out _ (Kp.drew (Kp.alloc (Kp.refl wz) _))))
      clear hK K
      (try simp only [Act.put, p1, p2, p3, p4, p5, p6])
      refine' tkk 14 rfl (by kernel_rfl) (fun _ _ _ h => h) (.inl ⟨by rfl, ?_⟩) (by assumption) ?_; rotate_left
      ·(intro w hSw; (try dsimp only at hSw); (try simp only [p1, p2, p3]); go_simp; first | done | with_reducible rfl)
      (try simp only [Act.put, p1, p2, p3, p4, p5, p6])
      refine wpAnyH_done (by kernel_rfl) ?_ _
      (try clear hHeld14)
      (try clear hHeld15)
      (try clear hHeld16)
      clear HS10 TCO
      have hkY := kp_set4 hp hg12 (.bool false) (.slice none 0 0) (.bool false) (.slice none 0 0)
      have hbY := (show Blk (qst v8 wz.heap.size 0 false false none none 0 0 0 0) wz.heap.size 42 #[.bool false, .slice none 0 0, .bool false, .slice none 0 0] from hb12.put4)
      simp only [qst, Nat.zero_add] at hbY
      clear hk hp hb12 hg12 i0 i1' i2' i3
      generalize (((v8.setCell ⟨wz.heap.size, 0, none⟩ (.bool false)).setCell ⟨wz.heap.size, 1, none⟩ (.slice none 0 0)).setCell ⟨wz.heap.size, 2, none⟩ (.bool false)).setCell ⟨wz.heap.size, 3, none⟩ (.slice none 0 0) = Y at *
      generalize hg12e : wz.heap.size = g12 at hbY ⊢
      have HF := Lib.hid (HT.out.1.trans (Below.mono hkY HT.out.1.size))
      clear hkY hbY
      clear HT HKW HGD HX HQR HLQ HB4 HG1 HLV
      clear hcl y0 y1 y2 y3 hbr hbr2
      go_wp2_with fail
      go_ret
      exact ⟨rfl, HF.out⟩
     exact AllReadyH.nil
   ·obtain rfl : rn = i := by omega
    have hg : goodA ls gs := fun j hj => HGD.out j (by have := HLN.out; omega)
    have HSS0 := Lib.hid (stack_sum HLN.out HG1.out.1 HLV.out.1 HLV.out.2 HK.out hg)
    have hlq9 : Ls 129 (qtyA gs rn) := (qtyA_ls HLQ.out rn (Nat.le_refl _)).mono (by omega)
    have hlm9 : Ls 1000 (moneyA ls gs rn) := (moneyA_ls (n := rn) (s := 7) (by decide) (fun j hj => HKC.out j (by omega)) (fun j hj => (HGD.out j hj).1) (fun j hj => HLQ.out j (by omega)) rn (Nat.le_refl _)).mono (by omega)
    have HLQ9 := Lib.hid hlq9
    have HLM9 := Lib.hid hlm9
    clear hg hlq9 hlm9 HGD
    generalize qtyA gs rn = q9 at *
    generalize moneyA ls gs rn = m9 at *
    obtain ⟨⟨s1, s2⟩, s3, s4, s5, s6, s7⟩ := HSS0.out
    have TSH := Lib.hid (fun W (hW : Kp wz W) => share_x (s := 129) (by decide) (by decide) (!bids) A1 m rn cap lv q9 R1 R2 j3 d3 j4 d4 W (HG1.out.below (HKW.out.trans (Below.mono hW HKW.out.size))) HLV.out.2 (WQ.below HT.out.2.2.2.2.wq hW) HLQ9.out s1 s2 HM0.out)
    have TKC := Lib.hid (fun W (hW : Kp wz W) => kcost_x (s := 129) (by decide) (by decide) (!bids) A1 m rn cap lv q9 R1 R2 j3 d3 j4 d4 W (HG1.out.below (HKW.out.trans (Below.mono hW HKW.out.size))) HLV.out.2 (WQ.below HT.out.2.2.2.2.wq hW) HLQ9.out s1 s2)
    have HLC := Lib.hid (kcost_ls (s := 129) (by decide) HG1.out.1 HLV.out.2 s1 HLQ9.out)
    have HGA := Lib.hid s3
    have HS4 := Lib.hid s4
    have HS5 := Lib.hid s5
    have HS6 := Lib.hid s6
    have HS7 := Lib.hid s7
    clear s1 s2 s3 s4 s5 s6 s7 HSS0
    generalize qAll lv rn q9 m = xs at *
    generalize costAt (lvQ lv) q9 m = cc at *
    have HT1 := Lib.hid (And.intro HT.out.1 (And.intro HT.out.2.2.2.1 (And.intro HT.out.2.1 (And.intro HT.out.2.2.2.2.wq HT.out.2.2.1.wq))))
    obtain ⟨_, _, _, _, f10, f11, f12, f13⟩ := HT1.out.2.1.four
    clear HT HKW HG1 HLV HM0 HB4
    go_wp2_with fail
    refine (TSH.out _ (Kp.refl _)).mono ?_
    rintro e u1 ⟨X, xc, rfl, hxs, hbu1⟩
    obtain ⟨_, _, _, _, f20, f21, f22, f23⟩ := (Kp.blk hbu1 HT1.out.2.1).four
    have HU1 := Lib.hid hbu1
    have HXS1 := Lib.hid hxs
    clear hbu1 hxs f10 f11 f12 f13 TSH
    go_wp2_with fail
    refine (TKC.out u1 HU1.out).mono ?_
    rintro e u2 ⟨C1, c2, c3, C4, c5, c6, rfl, hcq, hbu2⟩
    have kx := (Kp.refl u2).alloc (.cells #[.bool (decide ((cc).num < 0)), .slice C1 c2 c3, .bool false, .slice C4 c5 c6] 42)
    have bx := Blk.new u2 42 #[.bool (decide ((cc).num < 0)), .slice C1 c2 c3, .bool false, .slice C4 c5 c6]
    have HU2 := Lib.hid (show Kp wz (u2.alloc (.cells #[.bool (decide ((cc).num < 0)), .slice C1 c2 c3, .bool false, .slice C4 c5 c6] 42)) from Kp.trans (Kp.trans HU1.out hbu2) kx)
    have HBC := Lib.hid (And.intro bx (WQ.below hcq.wq kx))
    have HXS2 := Lib.hid ((HXS1.out.below hbu2).below kx)
    have n2 : ((rn : Int) != (rn : Int)) = false := by simp
    clear hcq hbu2 kx bx HXS1 HU1 f20 f21 f22 f23 TKC
    go_wp2_with fail
    generalize u2.alloc (.cells #[.bool (decide ((cc).num < 0)), .slice C1 c2 c3, .bool false, .slice C4 c5 c6] 42) = V2 at *
    generalize u2.heap.size = gc at *
    have hsz2 : w.heap.size ≤ V2.heap.size := Nat.le_trans HT1.out.1.size HU2.out.size
    have HB2 := Lib.hid (HT1.out.1.trans (Below.mono HU2.out HT1.out.1.size))
    refine (from_zero V2 (moneyA ls xs 0) rfl).mono ?_
    rintro e u5 ⟨A5, k5, c5', A6, k6, c6', rfl, hk5, hk6, hW5, hW6, hF5, hF6, hb5⟩
    have hq5 : CQ w.heap.size u5 (moneyA ls xs 0) A5 k5 c5' A6 k6 c6' := ⟨hk5, hk6, hW5, hW6, hF5.mono hsz2, hF6.mono hsz2⟩
    have HB5 := Lib.hid (HB2.out.trans (hb5.mono HB2.out.size))
    have HH5 := Lib.hid hb5
    clear hk5 hk6 hW5 hW6 hF5 hF6 hb5 hsz2
    go_wp2_with fail
    refine (from_zero u5 (qtyA xs 0) rfl).mono ?_
    rintro e u6 ⟨A7, k7, c7, A8, k8, c8, rfl, hk7, hk8, hW7, hW8, hF7, hF8, hb6⟩
    have hq7 : CQ w.heap.size u6 (qtyA xs 0) A7 k7 c7 A8 k8 c8 := ⟨hk7, hk8, hW7, hW8, hF7.mono HB5.out.size, hF8.mono HB5.out.size⟩
    have hB6 := HB5.out.trans (hb6.mono HB5.out.size)
    have hq6 := hq5.below hb6
    have k2 := ((Kp.refl u6).alloc (.cells #[.bool (decide ((moneyA ls xs 0).num < 0)), .slice A5 k5 c5', .bool false, .slice A6 k6 c6'] 42)).alloc (.cells #[.bool (decide ((qtyA xs 0).num < 0)), .slice A7 k7 c7, .bool false, .slice A8 k8 c8] 42)
    have b9 := (Blk.new u6 42 #[.bool (decide ((moneyA ls xs 0).num < 0)), .slice A5 k5 c5', .bool false, .slice A6 k6 c6']).alloc (.cells #[.bool (decide ((qtyA xs 0).num < 0)), .slice A7 k7 c7, .bool false, .slice A8 k8 c8] 42)
    have b10 := Blk.new (u6.alloc (.cells #[.bool (decide ((moneyA ls xs 0).num < 0)), .slice A5 k5 c5', .bool false, .slice A6 k6 c6'] 42)) 42 #[.bool (decide ((qtyA xs 0).num < 0)), .slice A7 k7 c7, .bool false, .slice A8 k8 c8]
    simp only [World.size_alloc] at b10
    have HT0 := Lib.hid (TotR.mk (hB6.trans (Below.mono k2 hB6.size)) b9 (hq6.below k2) b10 (hq7.below k2))
    have HGX := Lib.hid (show w.heap.size ≤ u6.heap.size from hB6.size)
    have HG5 := Lib.hid (show V2.heap.size ≤ u6.heap.size from Nat.le_trans HH5.out.size hb6.size)
    have HKV := Lib.hid (show Kp V2 ((u6.alloc (.cells #[.bool (decide ((moneyA ls xs 0).num < 0)), .slice A5 k5 c5', .bool false, .slice A6 k6 c6'] 42)).alloc (.cells #[.bool (decide ((qtyA xs 0).num < 0)), .slice A7 k7 c7, .bool false, .slice A8 k8 c8] 42)) from Kp.trans (Kp.trans HH5.out hb6) k2)
    have HLX := Lib.hid (show ∀ j, j < rn → Ls 6241 (xs[j]?.getD 0) from by
     obtain ⟨es, _, hw⟩ := HXS2.out.raw
     exact fun j hj => (hw j hj).ls)
    clear hk7 hk8 hW7 hW8 hF7 hF8 hb6 hq5 hq6 hq7 b9 b10 k2 hB6 HB5 HH5
    go_wp2_with fail
    generalize (u6.alloc (.cells #[.bool (decide ((moneyA ls xs 0).num < 0)), .slice A5 k5 c5', .bool false, .slice A6 k6 c6'] 42)).alloc (.cells #[.bool (decide ((qtyA xs 0).num < 0)), .slice A7 k7 c7, .bool false, .slice A8 k8 c8] 42) = V3 at *
    generalize u6.heap.size = gx at *
    have HT1' := Lib.hid (And.intro (Kp.blk HU2.out HT1.out.2.1) (And.intro (Kp.blk HU2.out HT1.out.2.2.1) (And.intro (WQ.below HT1.out.2.2.2.1 HU2.out) (WQ.below HT1.out.2.2.2.2 HU2.out))))
    clear HT1 HU2
    obtain ⟨Q1, rfl⟩ : ∃ u, u = R1 := ⟨_, rfl⟩
    obtain ⟨q2, rfl⟩ : ∃ u, u = j3 := ⟨_, rfl⟩
    obtain ⟨q3, rfl⟩ : ∃ u, u = d3 := ⟨_, rfl⟩
    obtain ⟨Q4, rfl⟩ : ∃ u, u = R2 := ⟨_, rfl⟩
    obtain ⟨q5, rfl⟩ : ∃ u, u = j4 := ⟨_, rfl⟩
    obtain ⟨q6, rfl⟩ : ∃ u, u = d4 := ⟨_, rfl⟩
    obtain ⟨M1, rfl⟩ : ∃ u, u = P1 := ⟨_, rfl⟩
    obtain ⟨m2, rfl⟩ : ∃ u, u = j1 := ⟨_, rfl⟩
    obtain ⟨m3, rfl⟩ : ∃ u, u = d1 := ⟨_, rfl⟩
    obtain ⟨M4, rfl⟩ : ∃ u, u = P2 := ⟨_, rfl⟩
    obtain ⟨m5, rfl⟩ : ∃ u, u = j2 := ⟨_, rfl⟩
    obtain ⟨m6, rfl⟩ : ∃ u, u = d2 := ⟨_, rfl⟩
    obtain ⟨wq, rfl⟩ : ∃ u, u = wz := ⟨_, rfl⟩
    clear hi hlt
    go_loopw [20] (fun t wr => ∃ (i : Nat) (P1 : Option Addr) (j1 d1 : Nat) (P2 : Option Addr) (j2 d2 : Nat) (R1 : Option Addr) (j3 d3 : Nat) (R2 : Option Addr) (j4 d4 : Nat), i ≤ rn ∧ t = .int .i64 i ∧ Hid (TotR w gx (gx + 1) (moneyA ls xs i) (qtyA xs i) P1 j1 d1 P2 j2 d2 R1 j3 d3 R2 j4 d4 wr) ∧ Hid (Below V2.heap.size V2 wr)) (fun t _ => rn - (intOf t).toNat)
    case atStart => exact ⟨0, A5, k5, c5', A6, k6, c6', A7, k7, c7, A8, k8, c8, Nat.zero_le _, rfl, HT0.out, HKV.out⟩
    case round =>
     clear HT0 HKV
     obtain ⟨i, P1, j1, d1, P2, j2, d2, R1, j3, d3, R2, j4, d4, hi, rfl, HT, HKW⟩ := hrel
     obtain ⟨wz, rfl⟩ : ∃ u, u = wr := ⟨_, rfl⟩
     by_cases hlt : i < rn
     ·obtain ⟨b, o, rfl, hb0, hc1⟩ := (HX.out.below HT.out.1).2 (by omega)
      obtain ⟨A', n', c', hcl, hst⟩ := hc1 i hlt
      obtain ⟨b2, o2, rfl, hb02, hc2⟩ := (HXS2.out.below HKW.out).2 (by omega)
      obtain ⟨an, aA, ak, ac, an', aA', ak', ac', y0, y1, y2, y3, hqs⟩ := hc2 i hlt
      have hbr := hb0
      have hbr2 := hb02
      have hce := HKC.out i hlt
      have e' : n' = (ls[i]?.getD []).length := hst.1.symm
      have i1 : (0 : Int) ≤ (i : Int) := by omega
      have i2 : (i : Int) < (rn : Int) := by omega
      have hgd := HGA.out i (by have := HLN.out; omega)
      have TCO := Lib.hid (fun W (hW : Kp wz W) => scost_s (s := 6241) (by decide) (by decide) A' n' c' _ an an' aA aA' ak ac ak' ac' _ W (hst.below hW) (hqs.below hW) hce hgd.1 hgd.2)
      have HQS := Lib.hid hqs
      have hcol := (cost_ls (s := 6241) (by decide) hce hgd.1 (HLX.out i hlt))
      rw [← e'] at hcol
      have HNM := Lib.hid (show moneyA ls xs (i + 1) = moneyA ls xs i + costAt (ls[i]?.getD []) (xs[i]?.getD 0) n' from by rw [e']; rfl)
      have HNQ := Lib.hid (show qtyA xs (i + 1) = qtyA xs i + xs[i]?.getD 0 from rfl)
      have HCOL := Lib.hid hcol
      generalize costAt (ls[i]?.getD []) (xs[i]?.getD 0) n' = co at *
      clear hc1 hc2 hst hqs hce hgd hcol hb0 hb02 e'
      have hne1 : gx ≠ gx + 1 := by omega
      have hne2 : gx + 1 ≠ gx := by omega
      have HGM := Lib.hid HGX.out
      have HGQ := Lib.hid (show w.heap.size ≤ gx + 1 by have := HGX.out; omega)
      have HSQ0 := Lib.hid ((qtyA_ls HLX.out i hi).mono (show i * (6241 + 1) + 1 ≤ 400000 by omega))
      have HSM0 := Lib.hid ((moneyA_ls (n := i) (s := 6241) (by decide) (fun j hj => HKC.out j (by omega)) (fun j hj => (HGA.out j (by have := HLN.out; omega)).1) (fun j hj => HLX.out j (by omega)) i (Nat.le_refl _)).mono (show i * (3 * (6241 + 6) + 2) + 1 ≤ 400000 by omega))
      go_wp2_with fail
      have HS10 := Lib.hid (show ∀ w', Kp wz w' → (w'.cell? ⟨b, o + i, none⟩ = some (.slice A' n' c') ∧ w'.cell? ⟨b2, o2 + i * 4, none⟩ = some (.bool an) ∧ w'.cell? ⟨b2, o2 + i * 4 + 1, none⟩ = some (.slice aA ak ac) ∧ w'.cell? ⟨b2, o2 + i * 4 + 2, none⟩ = some (.bool an') ∧ w'.cell? ⟨b2, o2 + i * 4 + 3, none⟩ = some (.slice aA' ak' ac')) ∧ Kp wz w' from fun w' hk => ⟨⟨(Below.cell hk (p := ⟨b, _, none⟩) hbr).trans hcl, (Below.cell hk (p := ⟨b2, _, none⟩) hbr2).trans y0, (Below.cell hk (p := ⟨b2, _, none⟩) hbr2).trans y1, (Below.cell hk (p := ⟨b2, _, none⟩) hbr2).trans y2, (Below.cell hk (p := ⟨b2, _, none⟩) hbr2).trans y3⟩, hk⟩)
      refine wp_region_held_drew (S := fun w' => (w'.cell? ⟨b, o + i, none⟩ = some (.slice A' n' c') ∧ w'.cell? ⟨b2, o2 + i * 4, none⟩ = some (.bool an) ∧ w'.cell? ⟨b2, o2 + i * 4 + 1, none⟩ = some (.slice aA ak ac) ∧ w'.cell? ⟨b2, o2 + i * 4 + 2, none⟩ = some (.bool an') ∧ w'.cell? ⟨b2, o2 + i * 4 + 3, none⟩ = some (.slice aA' ak' ac')) ∧ Kp wz w') (by kernel_rfl) (HS10.out _ (Kp.drew (Kp.refl wz))) (fun hHeld => ?_)
      refine' tkk 0 rfl (by kernel_rfl) (fun _ _ _ h => h) (.inl ⟨by rfl, ?_⟩) (by assumption) ?_; rotate_left
      ·(intro w hSw; (try dsimp only at hSw); (try simp only [p1, p2, p3]); go_simp; first | done | with_reducible rfl)
      (try simp only [Act.put, p1, p2, p3, p4, p5, p6])
      refine' tkk 1 rfl (by kernel_rfl) (fun _ _ _ h => h) (.inl ⟨by rfl, ?_⟩) (by assumption) ?_; rotate_left
      ·(intro w hSw; (try dsimp only at hSw); (try simp only [p1, p2, p3]); go_simp; first | done | with_reducible rfl)
      (try simp only [Act.put, p1, p2, p3, p4, p5, p6])
      refine' tkk 2 rfl (by kernel_rfl) (fun _ _ _ h => h) (.inl ⟨by rfl, ?_⟩) (by assumption) ?_; rotate_left
      ·(intro w hSw; (try dsimp only at hSw); (try simp only [p1, p2, p3]); go_simp; first | done | with_reducible rfl)
      (try simp only [Act.put, p1, p2, p3, p4, p5, p6])
      refine' tkk 3 rfl (by kernel_rfl) (fun _ _ _ h => h) (.inl ⟨by rfl, ?_⟩) (by assumption) ?_; rotate_left
      ·(intro w hSw; (try dsimp only at hSw); (try simp only [p1, p2, p3]); go_simp; first | done | with_reducible rfl)
      (try simp only [Act.put, p1, p2, p3, p4, p5, p6])
      refine' tkk 4 rfl (by kernel_rfl) (fun _ _ _ h => h) (.inl ⟨by rfl, ?_⟩) (by assumption) ?_; rotate_left
      ·(intro w hSw; (try dsimp only at hSw); (try simp only [p1, p2, p3]); go_simp; first | done | with_reducible rfl)
      (try simp only [Act.put, p1, p2, p3, p4, p5, p6])
      refine' tkk 5 rfl (by kernel_rfl) (fun _ _ _ h => h) (.inl ⟨by rfl, ?_⟩) (by assumption) ?_; rotate_left
      ·(intro w hSw; (try dsimp only at hSw); (try simp only [p1, p2, p3]); go_simp; first | done | with_reducible rfl)
      (try simp only [Act.put, p1, p2, p3, p4, p5, p6])
      refine' tkk 6 rfl (by kernel_rfl) (fun _ _ _ h => h) (.inl ⟨by rfl, ?_⟩) (by assumption) ?_; rotate_left
      ·(intro w hSw; (try dsimp only at hSw); (try simp only [p1, p2, p3]); go_simp; first | done | with_reducible rfl)
      (try simp only [Act.put, p1, p2, p3, p4, p5, p6])
      refine' tkk 7 rfl (by kernel_rfl) (fun _ _ _ h => h) (.inl ⟨by rfl, ?_⟩) (by assumption) ?_; rotate_left
      ·(intro w hSw; (try dsimp only at hSw); (try simp only [p1, p2, p3]); go_simp; first | done | with_reducible rfl)
      (try simp only [Act.put, p1, p2, p3, p4, p5, p6])
      refine wpAnyH_ready (rs := [8, 12]) (by kernel_rfl) (by simp) ?_
      refine AllReadyH.cons rfl (fun K hK => ?_) ?_
      ·(try simp only [p1, p2, p3])
       go_simp
       have hk := And.right ‹_ ∧ Kp wz _›
       refine (TCO.out _ hk).mono ?_
       rintro e v8 ⟨N8, n8, o8, M8, p8, s8, rfl, hcq, hbx⟩
       have hp : Kp wz v8 := Kp.trans hk hbx
       (try replace hb12 := Blk.below hb12 hbx hb12.lt)
       have h8r := hcq.wq
       clear hcq
       clear hk hbx
       (try (go_wp2_with fail))
       refine hK.out _ _ ?k17 (fun hHeld17 => ?n17)
       case k17 => ((try dsimp only); first | (with_reducible refine HS10.out _ ?_; with_reducible assumption) | (with_reducible refine HS10.out _ (Kp.drew ?_); with_reducible assumption) | (with_reducible refine' HS10.out _ (Kp.drew (And.right ?_)); rotate_left; with_reducible assumption) | (with_reducible refine' HS10.out _ (Kp.alloc (And.right ?_) _); rotate_left; with_reducible assumption) | (with_reducible refine' HS10.out _ (kp_set4 (And.right ?_) hg12 _ _ _ _); rotate_left; with_reducible assumption) | (exact HS10.out _ (Kp.drew (Kp.alloc (Kp.refl wz) _))))
       clear hK K
       (try simp only [Act.put, p1, p2, p3, p4, p5, p6])
       refine' tkk 9 rfl (by kernel_rfl) (fun _ _ _ h => h) (.inl ⟨by rfl, ?_⟩) (by assumption) ?_; rotate_left
       ·(intro w hSw; (try dsimp only at hSw); (try simp only [p1, p2, p3]); go_simp; first | done | with_reducible rfl)
       (try simp only [Act.put, p1, p2, p3, p4, p5, p6])
       refine' tkk 10 rfl (by kernel_rfl) (fun _ _ _ h => h) (.inl ⟨by rfl, ?_⟩) (by assumption) ?_; rotate_left
       ·(intro w hSw; (try dsimp only at hSw); (try simp only [p1, p2, p3]); go_simp; first | done | with_reducible rfl)
       (try simp only [Act.put, p1, p2, p3, p4, p5, p6])
       refine' tkk 11 rfl (by kernel_rfl) (fun _ _ _ h => h) (.inl ⟨by rfl, ?_⟩) (by assumption) ?_; rotate_left
       ·(intro w hSw; (try dsimp only at hSw); (try simp only [p1, p2, p3]); go_simp; first | done | with_reducible rfl)
       (try simp only [Act.put, p1, p2, p3, p4, p5, p6])
       refine wpAnyH_ready (rs := [12]) (by kernel_rfl) (by simp) ?_
       refine AllReadyH.cons rfl (fun K hK => ?_) AllReadyH.nil
       (try simp only [p1, p2, p3])
       go_simp
       have hk := And.right ‹_ ∧ Kp wz _›
       have hg12 := Below.size hk
       have hb12 := blk_hereS hk 42 #[.bool false, .slice none 0 0, .bool false, .slice none 0 0]
       (try simp only [sz_drewS] at hb12 hg12)
       clear hk
       refine hK.out _ _ ?k18 (fun hHeld18 => ?n18)
       case k18 => ((try dsimp only); first | (with_reducible refine HS10.out _ ?_; with_reducible assumption) | (with_reducible refine HS10.out _ (Kp.drew ?_); with_reducible assumption) | (with_reducible refine' HS10.out _ (Kp.drew (And.right ?_)); rotate_left; with_reducible assumption) | (with_reducible refine' HS10.out _ (Kp.alloc (And.right ?_) _); rotate_left; with_reducible assumption) | (with_reducible refine' HS10.out _ (kp_set4 (And.right ?_) hg12 _ _ _ _); rotate_left; with_reducible assumption) | (exact HS10.out _ (Kp.drew (Kp.alloc (Kp.refl wz) _))))
       clear hK K
       (try simp only [Act.put, p1, p2, p3, p4, p5, p6])
       refine wpAnyH_ready (rs := [13]) (by kernel_rfl) (by simp) ?_
       refine AllReadyH.cons rfl (fun K hK => ?_) AllReadyH.nil
       have hk := And.right ‹_ ∧ Kp wz _›
       obtain ⟨_, _, _, _, i0, i1', i2', i3⟩ := hb12.four
       (try simp only [p1, p2, p3])
       go_simp
       refine hK.out _ _ ?k19 (fun hHeld19 => ?n19)
       case k19 => ((try dsimp only); first | (with_reducible refine HS10.out _ ?_; with_reducible assumption) | (with_reducible refine HS10.out _ (Kp.drew ?_); with_reducible assumption) | (with_reducible refine' HS10.out _ (Kp.drew (And.right ?_)); rotate_left; with_reducible assumption) | (with_reducible refine' HS10.out _ (Kp.alloc (And.right ?_) _); rotate_left; with_reducible assumption) | (with_reducible refine' HS10.out _ (kp_set4 (And.right ?_) hg12 _ _ _ _); rotate_left; with_reducible assumption) | (exact HS10.out _ (Kp.drew (Kp.alloc (Kp.refl wz) _))))
       clear hK K
       (try simp only [Act.put, p1, p2, p3, p4, p5, p6])
       refine' tkk 14 rfl (by kernel_rfl) (fun _ _ _ h => h) (.inl ⟨by rfl, ?_⟩) (by assumption) ?_; rotate_left
       ·(intro w hSw; (try dsimp only at hSw); (try simp only [p1, p2, p3]); go_simp; first | done | with_reducible rfl)
       (try simp only [Act.put, p1, p2, p3, p4, p5, p6])
       refine wpAnyH_done (by kernel_rfl) ?_ _
       (try clear hHeld17)
       (try clear hHeld18)
       (try clear hHeld19)
       clear HS10 TCO
       have hkY := Kp.alloc hp (.cells #[.bool (decide ((co).num < 0)), .slice N8 n8 o8, .bool false, .slice M8 p8 s8] 42)
       have hbY := Blk.new v8 42 #[.bool (decide ((co).num < 0)), .slice N8 n8 o8, .bool false, .slice M8 p8 s8]
       have hqY := WQ.below h8r ((Kp.refl v8).alloc (.cells #[.bool (decide ((co).num < 0)), .slice N8 n8 o8, .bool false, .slice M8 p8 s8] 42))
       clear hk hp hb12 hg12 i0 i1' i2' i3 h8r
       generalize v8.alloc (.cells #[.bool (decide ((co).num < 0)), .slice N8 n8 o8, .bool false, .slice M8 p8 s8] 42) = Y at *
       generalize v8.heap.size = g12 at *
       have HTY := Lib.hid (HT.out.call hkY)
       have HKY := Lib.hid (HKW.out.trans (Below.mono hkY HKW.out.size))
       have HBY := Lib.hid hbY
       have HCO := Lib.hid hqY
       have z0 := (Below.cell hkY (p := ⟨b2, _, none⟩) hbr2).trans y0
       have z1 := (Below.cell hkY (p := ⟨b2, _, none⟩) hbr2).trans y1
       have z2 := (Below.cell hkY (p := ⟨b2, _, none⟩) hbr2).trans y2
       have z3 := (Below.cell hkY (p := ⟨b2, _, none⟩) hbr2).trans y3
       have hbY2 : b2 < Y.heap.size := Nat.lt_of_lt_of_le hbr2 (Below.size hkY)
       have HQY := Lib.hid (HQS.out.below hkY)
       have TQ1 := Lib.hid (fun (W : World) (hW : Kp Y W) => add_s (s := 400000) (by decide) (RQ.qs (WQ.below HTY.out.2.2.2.2.wq hW) HSQ0.out (by decide)) ((HQY.out.below hW).mono (by decide)))
       have TM1 := Lib.hid (fun (W : World) (hW : Kp Y W) => add_s (s := 400000) (by decide) (RQ.qs (WQ.below HTY.out.2.2.1.wq hW) HSM0.out (by decide)) (RQ.qs (WQ.below HCO.out hW) (HCOL.out.mono (by decide)) (by decide)))
       rw [← HNQ.out] at TQ1
       rw [← HNM.out] at TM1
       have HSQE : Hid (qtyA xs (i + 1) = qtyA xs (i + 1)) := Lib.hid rfl
       generalize hsqe : qtyA xs (i + 1) = sq' at *
       generalize hsme : moneyA ls xs (i + 1) = sm' at *
       have HSQ1 := Lib.hid hsqe
       have HSM1 := Lib.hid hsme
       generalize qtyA xs i = sq at *
       generalize moneyA ls xs i = sm at *
       clear hsqe hsme HSQE hbY hqY HT HKW HQS HSQ0 HSM0 hkY HCO y0 y1 y2 y3 hcl hbr hbr2
       go_wp2_with fail
       have HS13 := Lib.hid (show ∀ w', Kp Y w' → (w'.cell? ⟨gx + 1, 0, none⟩ = some (.bool (decide (sq.num < 0))) ∧ w'.cell? ⟨gx + 1, 1, none⟩ = some (.slice R1 j3 d3) ∧ w'.cell? ⟨gx + 1, 2, none⟩ = some (.bool false) ∧ w'.cell? ⟨gx + 1, 3, none⟩ = some (.slice R2 j4 d4) ∧ w'.cell? ⟨gx, 0, none⟩ = some (.bool (decide (sm.num < 0))) ∧ w'.cell? ⟨gx, 1, none⟩ = some (.slice P1 j1 d1) ∧ w'.cell? ⟨gx, 2, none⟩ = some (.bool false) ∧ w'.cell? ⟨gx, 3, none⟩ = some (.slice P2 j2 d2) ∧ w'.cell? ⟨g12, 0, none⟩ = some (.bool (decide (co.num < 0))) ∧ w'.cell? ⟨g12, 1, none⟩ = some (.slice N8 n8 o8) ∧ w'.cell? ⟨g12, 2, none⟩ = some (.bool false) ∧ w'.cell? ⟨g12, 3, none⟩ = some (.slice M8 p8 s8) ∧ w'.cell? ⟨b2, o2 + i * 4, none⟩ = some (.bool an) ∧ w'.cell? ⟨b2, o2 + i * 4 + 1, none⟩ = some (.slice aA ak ac) ∧ w'.cell? ⟨b2, o2 + i * 4 + 2, none⟩ = some (.bool an') ∧ w'.cell? ⟨b2, o2 + i * 4 + 3, none⟩ = some (.slice aA' ak' ac')) ∧ Kp Y w' from fun w' hk => ⟨⟨(Kp.blk hk HTY.out.2.2.2.1).cell 0, (Kp.blk hk HTY.out.2.2.2.1).cell 1, (Kp.blk hk HTY.out.2.2.2.1).cell 2, (Kp.blk hk HTY.out.2.2.2.1).cell 3, (Kp.blk hk HTY.out.2.1).cell 0, (Kp.blk hk HTY.out.2.1).cell 1, (Kp.blk hk HTY.out.2.1).cell 2, (Kp.blk hk HTY.out.2.1).cell 3, (Kp.blk hk HBY.out).cell 0, (Kp.blk hk HBY.out).cell 1, (Kp.blk hk HBY.out).cell 2, (Kp.blk hk HBY.out).cell 3, (Below.cell hk (p := ⟨b2, _, none⟩) hbY2).trans z0, (Below.cell hk (p := ⟨b2, _, none⟩) hbY2).trans z1, (Below.cell hk (p := ⟨b2, _, none⟩) hbY2).trans z2, (Below.cell hk (p := ⟨b2, _, none⟩) hbY2).trans z3⟩, hk⟩)
       refine wp_region_front 9 2 _ (fun w' => (w'.cell? ⟨gx + 1, 0, none⟩ = some (.bool (decide (sq.num < 0))) ∧ w'.cell? ⟨gx + 1, 1, none⟩ = some (.slice R1 j3 d3) ∧ w'.cell? ⟨gx + 1, 2, none⟩ = some (.bool false) ∧ w'.cell? ⟨gx + 1, 3, none⟩ = some (.slice R2 j4 d4) ∧ w'.cell? ⟨gx, 0, none⟩ = some (.bool (decide (sm.num < 0))) ∧ w'.cell? ⟨gx, 1, none⟩ = some (.slice P1 j1 d1) ∧ w'.cell? ⟨gx, 2, none⟩ = some (.bool false) ∧ w'.cell? ⟨gx, 3, none⟩ = some (.slice P2 j2 d2) ∧ w'.cell? ⟨g12, 0, none⟩ = some (.bool (decide (co.num < 0))) ∧ w'.cell? ⟨g12, 1, none⟩ = some (.slice N8 n8 o8) ∧ w'.cell? ⟨g12, 2, none⟩ = some (.bool false) ∧ w'.cell? ⟨g12, 3, none⟩ = some (.slice M8 p8 s8) ∧ w'.cell? ⟨b2, o2 + i * 4, none⟩ = some (.bool an) ∧ w'.cell? ⟨b2, o2 + i * 4 + 1, none⟩ = some (.slice aA ak ac) ∧ w'.cell? ⟨b2, o2 + i * 4 + 2, none⟩ = some (.bool an') ∧ w'.cell? ⟨b2, o2 + i * 4 + 3, none⟩ = some (.slice aA' ak' ac')) ∧ Kp Y w') (by kernel_rfl) (by kernel_rfl) rfl (HS13.out _ (Kp.drew (Kp.refl Y))) (fun hHeld => ?_)
       simp only [List.toList_toArray, List.take_succ_cons, List.take_zero]
       refine' tkk 0 rfl (by kernel_rfl) (fun _ _ _ h => h) (.inl ⟨by rfl, ?_⟩) (by assumption) ?_; rotate_left
       ·(intro w hSw; (try dsimp only at hSw); (try simp only [p1, p2, p3]); go_simp; first | done | with_reducible rfl)
       (try simp only [Act.put, p1, p2, p3, p4, p5, p6])
       refine' tkk 1 rfl (by kernel_rfl) (fun _ _ _ h => h) (.inl ⟨by rfl, ?_⟩) (by assumption) ?_; rotate_left
       ·(intro w hSw; (try dsimp only at hSw); (try simp only [p1, p2, p3]); go_simp; first | done | with_reducible rfl)
       (try simp only [Act.put, p1, p2, p3, p4, p5, p6])
       refine' tkk 3 rfl (by kernel_rfl) (fun _ _ _ h => h) (.inl ⟨by rfl, ?_⟩) (by assumption) ?_; rotate_left
       ·(intro w hSw; (try dsimp only at hSw); (try simp only [p1, p2, p3]); go_simp; first | done | with_reducible rfl)
       (try simp only [Act.put, p1, p2, p3, p4, p5, p6])
       refine' tkk 4 rfl (by kernel_rfl) (fun _ _ _ h => h) (.inl ⟨by rfl, ?_⟩) (by assumption) ?_; rotate_left
       ·(intro w hSw; (try dsimp only at hSw); (try simp only [p1, p2, p3]); go_simp; first | done | with_reducible rfl)
       (try simp only [Act.put, p1, p2, p3, p4, p5, p6])
       refine' tkk 5 rfl (by kernel_rfl) (fun _ _ _ h => h) (.inl ⟨by rfl, ?_⟩) (by assumption) ?_; rotate_left
       ·(intro w hSw; (try dsimp only at hSw); (try simp only [p1, p2, p3]); go_simp; first | done | with_reducible rfl)
       (try simp only [Act.put, p1, p2, p3, p4, p5, p6])
       refine' tkk 6 rfl (by kernel_rfl) (fun _ _ _ h => h) (.inl ⟨by rfl, ?_⟩) (by assumption) ?_; rotate_left
       ·(intro w hSw; (try dsimp only at hSw); (try simp only [p1, p2, p3]); go_simp; first | done | with_reducible rfl)
       (try simp only [Act.put, p1, p2, p3, p4, p5, p6])
       refine' tkk 7 rfl (by kernel_rfl) (fun _ _ _ h => h) (.inl ⟨by rfl, ?_⟩) (by assumption) ?_; rotate_left
       ·(intro w hSw; (try dsimp only at hSw); (try simp only [p1, p2, p3]); go_simp; first | done | with_reducible rfl)
       (try simp only [Act.put, p1, p2, p3, p4, p5, p6])
       refine wpAnyH_ready (rs := [2]) (by kernel_rfl) (by simp) ?_
       refine AllReadyH.cons rfl (fun K hK => ?_) AllReadyH.nil
       (try simp only [p1, p2, p3])
       go_simp
       have hk := And.right ‹_ ∧ Kp Y _›
       refine (TM1.out _ hk).mono ?_
       rintro e v5 ⟨Xa1, xa2, xa3, Xa4, xa5, xa6, rfl, hk1, hk2, hW1, hW2, hF1, hF2, hbx⟩
       have hp : Kp Y v5 := Kp.trans hk hbx
       have hszz := Nat.le_trans HTY.out.1.size (Below.size hk)
       have cqa : CQ w.heap.size v5 sm' Xa1 xa2 xa3 Xa4 xa5 xa6 := ⟨hk1, hk2, hW1, hW2, hF1.mono hszz, hF2.mono hszz⟩
       clear hk hbx hk1 hk2 hW1 hW2 hF1 hF2 hszz
       (try (go_wp2_with fail))
       refine hK.out _ _ ?k20 (fun hHeld20 => ?n20)
       case k20 => ((try dsimp only); first | (with_reducible refine HS13.out _ ?_; with_reducible assumption) | (with_reducible refine HS13.out _ (Kp.drew ?_); with_reducible assumption) | (with_reducible refine' HS13.out _ (Kp.drew (And.right ?_)); rotate_left; with_reducible assumption))
       clear hK K
       (try simp only [Act.put, p1, p2, p3, p4, p5, p6])
       refine wpAnyH_ready (rs := [8]) (by kernel_rfl) (by simp) ?_
       refine AllReadyH.cons rfl (fun K hK => ?_) AllReadyH.nil
       (try simp only [p1, p2, p3])
       go_simp
       have hk := And.right ‹_ ∧ Kp Y _›
       refine (TQ1.out _ hk).mono ?_
       rintro e v8 ⟨Xb1, xb2, xb3, Xb4, xb5, xb6, rfl, hk1, hk2, hW1, hW2, hF1, hF2, hbx⟩
       have hp : Kp Y v8 := Kp.trans hk hbx
       have hszz := Nat.le_trans HTY.out.1.size (Below.size hk)
       have cqb : CQ w.heap.size v8 sq' Xb1 xb2 xb3 Xb4 xb5 xb6 := ⟨hk1, hk2, hW1, hW2, hF1.mono hszz, hF2.mono hszz⟩
       (try replace cqa := cqa.below hbx)
       clear hk hbx hk1 hk2 hW1 hW2 hF1 hF2 hszz
       (try (go_wp2_with fail))
       refine hK.out _ _ ?k21 (fun hHeld21 => ?n21)
       case k21 => ((try dsimp only); first | (with_reducible refine HS13.out _ ?_; with_reducible assumption) | (with_reducible refine HS13.out _ (Kp.drew ?_); with_reducible assumption) | (with_reducible refine' HS13.out _ (Kp.drew (And.right ?_)); rotate_left; with_reducible assumption))
       clear hK K
       (try simp only [Act.put, p1, p2, p3, p4, p5, p6])
       refine wpAnyH_done (by kernel_rfl) ?_ _
       (try clear hHeld20)
       (try clear hHeld21)
       unfold Qfr
       dsimp only
       have hbq := Kp.blk hp HTY.out.2.2.2.1
       have hbm := Kp.blk hp HTY.out.2.1
       obtain ⟨_, _, _, _, f10, f11, f12, f13⟩ := hbq.four
       obtain ⟨_, _, _, _, f20, f21, f22, f23⟩ := hbm.four
       refine wpAny_ready (rs := [9]) (by kernel_rfl) (by simp) ?_
       refine AllReady.cons rfl (fun K hK => ?_) AllReady.nil
       (try simp only [List.getElem_toArray, List.getElem_cons_zero, List.getElem_cons_succ])
       go_simp
       refine hK _ _ ?_
       clear hK K
       (try simp only [Act.put, List.getElem_toArray, List.getElem_cons_zero, List.getElem_cons_succ, List.setIfInBounds_toArray, List.set_cons_zero, List.set_cons_succ])
       refine wpAny_ready (rs := [10]) (by kernel_rfl) (by simp) ?_
       refine AllReady.cons rfl (fun K hK => ?_) AllReady.nil
       (try simp only [List.getElem_toArray, List.getElem_cons_zero, List.getElem_cons_succ])
       go_simp
       refine hK _ _ ?_
       clear hK K
       (try simp only [Act.put, List.getElem_toArray, List.getElem_cons_zero, List.getElem_cons_succ, List.setIfInBounds_toArray, List.set_cons_zero, List.set_cons_succ])
       refine wpAny_done (by kernel_rfl) ?_ _
       have hp9 : TotR w (gx) (gx + 1) sm' sq' Xa1 xa2 xa3 Xa4 xa5 xa6 Xb1 xb2 xb3 Xb4 xb5 xb6 (((((((((v8.setCell ⟨gx, 0, none⟩ (.bool (decide ((sm').num < 0)))).setCell ⟨gx, 1, none⟩ (.slice Xa1 xa2 xa3)).setCell ⟨gx, 2, none⟩ (.bool false)).setCell ⟨gx, 3, none⟩ (.slice Xa4 xa5 xa6)).setCell ⟨gx + 1, 0, none⟩ (.bool (decide ((sq').num < 0)))).setCell ⟨gx + 1, 1, none⟩ (.slice Xb1 xb2 xb3)).setCell ⟨gx + 1, 2, none⟩ (.bool false)).setCell ⟨gx + 1, 3, none⟩ (.slice Xb4 xb5 xb6))) := ((HTY.out.call hp).put1 (m2 := sm') HGM.out hne2 cqa).put2 (s2 := sq') HGQ.out hne1 (cqb.put4 (o := 0) (a := decide (sm'.num < 0)) (b := false) (B := Xa1) (B' := Xa4) (j := xa2) (d := xa3) (j' := xa5) (d' := xa6) hbm NoInt.four)
       have hk9 : Below V2.heap.size V2 (((((((((v8.setCell ⟨gx, 0, none⟩ (.bool (decide ((sm').num < 0)))).setCell ⟨gx, 1, none⟩ (.slice Xa1 xa2 xa3)).setCell ⟨gx, 2, none⟩ (.bool false)).setCell ⟨gx, 3, none⟩ (.slice Xa4 xa5 xa6)).setCell ⟨gx + 1, 0, none⟩ (.bool (decide ((sq').num < 0)))).setCell ⟨gx + 1, 1, none⟩ (.slice Xb1 xb2 xb3)).setCell ⟨gx + 1, 2, none⟩ (.bool false)).setCell ⟨gx + 1, 3, none⟩ (.slice Xb4 xb5 xb6))) := (show Below V2.heap.size V2 (qst (qst v8 (gx) 0 (decide (sm'.num < 0)) false Xa1 Xa4 xa2 xa3 xa5 xa6) (gx + 1) 0 (decide (sq'.num < 0)) false Xb1 Xb4 xb2 xb3 xb5 xb6) from below_qst (below_qst (HKY.out.trans (Below.mono hp HKY.out.size)) (by have := HG5.out; omega)) (by have := HG5.out; omega))
       generalize ((((((((v8.setCell ⟨gx, 0, none⟩ (.bool (decide ((sm').num < 0)))).setCell ⟨gx, 1, none⟩ (.slice Xa1 xa2 xa3)).setCell ⟨gx, 2, none⟩ (.bool false)).setCell ⟨gx, 3, none⟩ (.slice Xa4 xa5 xa6)).setCell ⟨gx + 1, 0, none⟩ (.bool (decide ((sq').num < 0)))).setCell ⟨gx + 1, 1, none⟩ (.slice Xb1 xb2 xb3)).setCell ⟨gx + 1, 2, none⟩ (.bool false)).setCell ⟨gx + 1, 3, none⟩ (.slice Xb4 xb5 xb6)) = Y9 at *
       have HF := Lib.hid hp9
       have HK9 := Lib.hid hk9
       clear hp9 hk9 cqa cqb hp hbq hbm f10 f11 f12 f13 f20 f21 f22 f23 TQ1 TM1 HS13 HQY HBY HKY HTY z0 z1 z2 z3 hbY2
       clear HNM HNQ HCOL
       go_wp2_with fail
       go_roundw
       case rel => exact ⟨i + 1, Xa1, xa2, xa3, Xa4, xa5, xa6, Xb1, xb2, xb3, Xb4, xb5, xb6, by omega, by first | rfl | go_num, by rw [HSM1.out, HSQ1.out]; exact HF, HK9⟩
       case measure => simp [intOf]; omega
      refine AllReadyH.cons rfl (fun K hK => ?_) ?_
      ·(try simp only [p1, p2, p3])
       go_simp
       have hk := And.right ‹_ ∧ Kp wz _›
       have hg12 := Below.size hk
       have hb12 := blk_hereS hk 42 #[.bool false, .slice none 0 0, .bool false, .slice none 0 0]
       (try simp only [sz_drewS] at hb12 hg12)
       clear hk
       refine hK.out _ _ ?k22 (fun hHeld22 => ?n22)
       case k22 => ((try dsimp only); first | (with_reducible refine HS10.out _ ?_; with_reducible assumption) | (with_reducible refine HS10.out _ (Kp.drew ?_); with_reducible assumption) | (with_reducible refine' HS10.out _ (Kp.drew (And.right ?_)); rotate_left; with_reducible assumption) | (with_reducible refine' HS10.out _ (Kp.alloc (And.right ?_) _); rotate_left; with_reducible assumption) | (with_reducible refine' HS10.out _ (kp_set4 (And.right ?_) hg12 _ _ _ _); rotate_left; with_reducible assumption) | (exact HS10.out _ (Kp.drew (Kp.alloc (Kp.refl wz) _))))
       clear hK K
       (try simp only [Act.put, p1, p2, p3, p4, p5, p6])
       refine wpAnyH_ready (rs := [8]) (by kernel_rfl) (by simp) ?_
       refine AllReadyH.cons rfl (fun K hK => ?_) AllReadyH.nil
       (try simp only [p1, p2, p3])
       go_simp
       have hk := And.right ‹_ ∧ Kp wz _›
       refine (TCO.out _ hk).mono ?_
       rintro e v8 ⟨N8, n8, o8, M8, p8, s8, rfl, hcq, hbx⟩
       have hp : Kp wz v8 := Kp.trans hk hbx
       (try replace hb12 := Blk.below hb12 hbx hb12.lt)
       have h8r := hcq.wq
       clear hcq
       clear hk hbx
       (try (go_wp2_with fail))
       refine hK.out _ _ ?k23 (fun hHeld23 => ?n23)
       case k23 => ((try dsimp only); first | (with_reducible refine HS10.out _ ?_; with_reducible assumption) | (with_reducible refine HS10.out _ (Kp.drew ?_); with_reducible assumption) | (with_reducible refine' HS10.out _ (Kp.drew (And.right ?_)); rotate_left; with_reducible assumption) | (with_reducible refine' HS10.out _ (Kp.alloc (And.right ?_) _); rotate_left; with_reducible assumption) | (with_reducible refine' HS10.out _ (kp_set4 (And.right ?_) hg12 _ _ _ _); rotate_left; with_reducible assumption) | (exact HS10.out _ (Kp.drew (Kp.alloc (Kp.refl wz) _))))
       clear hK K
       (try simp only [Act.put, p1, p2, p3, p4, p5, p6])
       refine' tkk 9 rfl (by kernel_rfl) (fun _ _ _ h => h) (.inl ⟨by rfl, ?_⟩) (by assumption) ?_; rotate_left
       ·(intro w hSw; (try dsimp only at hSw); (try simp only [p1, p2, p3]); go_simp; first | done | with_reducible rfl)
       (try simp only [Act.put, p1, p2, p3, p4, p5, p6])
       refine' tkk 10 rfl (by kernel_rfl) (fun _ _ _ h => h) (.inl ⟨by rfl, ?_⟩) (by assumption) ?_; rotate_left
       ·(intro w hSw; (try dsimp only at hSw); (try simp only [p1, p2, p3]); go_simp; first | done | with_reducible rfl)
       (try simp only [Act.put, p1, p2, p3, p4, p5, p6])
       refine' tkk 11 rfl (by kernel_rfl) (fun _ _ _ h => h) (.inl ⟨by rfl, ?_⟩) (by assumption) ?_; rotate_left
       ·(intro w hSw; (try dsimp only at hSw); (try simp only [p1, p2, p3]); go_simp; first | done | with_reducible rfl)
       (try simp only [Act.put, p1, p2, p3, p4, p5, p6])
       refine wpAnyH_ready (rs := [13]) (by kernel_rfl) (by simp) ?_
       refine AllReadyH.cons rfl (fun K hK => ?_) AllReadyH.nil
       have hk := And.right ‹_ ∧ Kp wz _›
       obtain ⟨_, _, _, _, i0, i1', i2', i3⟩ := hb12.four
       (try simp only [p1, p2, p3])
       go_simp
       refine hK.out _ _ ?k24 (fun hHeld24 => ?n24)
       case k24 => ((try dsimp only); first | (with_reducible refine HS10.out _ ?_; with_reducible assumption) | (with_reducible refine HS10.out _ (Kp.drew ?_); with_reducible assumption) | (with_reducible refine' HS10.out _ (Kp.drew (And.right ?_)); rotate_left; with_reducible assumption) | (with_reducible refine' HS10.out _ (Kp.alloc (And.right ?_) _); rotate_left; with_reducible assumption) | (with_reducible refine' HS10.out _ (kp_set4 (And.right ?_) hg12 _ _ _ _); rotate_left; with_reducible assumption) | (exact HS10.out _ (Kp.drew (Kp.alloc (Kp.refl wz) _))))
       clear hK K
       (try simp only [Act.put, p1, p2, p3, p4, p5, p6])
       refine' tkk 14 rfl (by kernel_rfl) (fun _ _ _ h => h) (.inl ⟨by rfl, ?_⟩) (by assumption) ?_; rotate_left
       ·(intro w hSw; (try dsimp only at hSw); (try simp only [p1, p2, p3]); go_simp; first | done | with_reducible rfl)
       (try simp only [Act.put, p1, p2, p3, p4, p5, p6])
       refine wpAnyH_done (by kernel_rfl) ?_ _
       (try clear hHeld22)
       (try clear hHeld23)
       (try clear hHeld24)
       clear HS10 TCO
       have hkY := kp_set4 hp hg12 (.bool (decide (co.num < 0))) (.slice N8 n8 o8) (.bool false) (.slice M8 p8 s8)
       have hbY := (show Blk (qst v8 wz.heap.size 0 (decide (co.num < 0)) false N8 M8 n8 o8 p8 s8) wz.heap.size 42 #[.bool (decide ((co).num < 0)), .slice N8 n8 o8, .bool false, .slice M8 p8 s8] from hb12.put4)
       have hqY := WQ.put4 (o := 0) (a := decide (co.num < 0)) (b := false) (B := N8) (B' := M8) (j := n8) (d := o8) (j' := p8) (d' := s8) h8r hb12 NoInt.four
       simp only [qst, Nat.zero_add] at hbY hqY
       clear hk hp hb12 hg12 i0 i1' i2' i3 h8r
       generalize (((v8.setCell ⟨wz.heap.size, 0, none⟩ (.bool (decide (co.num < 0)))).setCell ⟨wz.heap.size, 1, none⟩ (.slice N8 n8 o8)).setCell ⟨wz.heap.size, 2, none⟩ (.bool false)).setCell ⟨wz.heap.size, 3, none⟩ (.slice M8 p8 s8) = Y at *
       generalize hg12e : wz.heap.size = g12 at hbY ⊢
       have HTY := Lib.hid (HT.out.call hkY)
       have HKY := Lib.hid (HKW.out.trans (Below.mono hkY HKW.out.size))
       have HBY := Lib.hid hbY
       have HCO := Lib.hid hqY
       have z0 := (Below.cell hkY (p := ⟨b2, _, none⟩) hbr2).trans y0
       have z1 := (Below.cell hkY (p := ⟨b2, _, none⟩) hbr2).trans y1
       have z2 := (Below.cell hkY (p := ⟨b2, _, none⟩) hbr2).trans y2
       have z3 := (Below.cell hkY (p := ⟨b2, _, none⟩) hbr2).trans y3
       have hbY2 : b2 < Y.heap.size := Nat.lt_of_lt_of_le hbr2 (Below.size hkY)
       have HQY := Lib.hid (HQS.out.below hkY)
       have TQ1 := Lib.hid (fun (W : World) (hW : Kp Y W) => add_s (s := 400000) (by decide) (RQ.qs (WQ.below HTY.out.2.2.2.2.wq hW) HSQ0.out (by decide)) ((HQY.out.below hW).mono (by decide)))
       have TM1 := Lib.hid (fun (W : World) (hW : Kp Y W) => add_s (s := 400000) (by decide) (RQ.qs (WQ.below HTY.out.2.2.1.wq hW) HSM0.out (by decide)) (RQ.qs (WQ.below HCO.out hW) (HCOL.out.mono (by decide)) (by decide)))
       rw [← HNQ.out] at TQ1
       rw [← HNM.out] at TM1
       have HSQE : Hid (qtyA xs (i + 1) = qtyA xs (i + 1)) := Lib.hid rfl
       generalize hsqe : qtyA xs (i + 1) = sq' at *
       generalize hsme : moneyA ls xs (i + 1) = sm' at *
       have HSQ1 := Lib.hid hsqe
       have HSM1 := Lib.hid hsme
       generalize qtyA xs i = sq at *
       generalize moneyA ls xs i = sm at *
       clear hsqe hsme HSQE hbY hqY HT HKW HQS HSQ0 HSM0 hkY HCO y0 y1 y2 y3 hcl hbr hbr2
       go_wp2_with fail
       have HS13 := Lib.hid (show ∀ w', Kp Y w' → (w'.cell? ⟨gx + 1, 0, none⟩ = some (.bool (decide (sq.num < 0))) ∧ w'.cell? ⟨gx + 1, 1, none⟩ = some (.slice R1 j3 d3) ∧ w'.cell? ⟨gx + 1, 2, none⟩ = some (.bool false) ∧ w'.cell? ⟨gx + 1, 3, none⟩ = some (.slice R2 j4 d4) ∧ w'.cell? ⟨gx, 0, none⟩ = some (.bool (decide (sm.num < 0))) ∧ w'.cell? ⟨gx, 1, none⟩ = some (.slice P1 j1 d1) ∧ w'.cell? ⟨gx, 2, none⟩ = some (.bool false) ∧ w'.cell? ⟨gx, 3, none⟩ = some (.slice P2 j2 d2) ∧ w'.cell? ⟨g12, 0, none⟩ = some (.bool (decide (co.num < 0))) ∧ w'.cell? ⟨g12, 1, none⟩ = some (.slice N8 n8 o8) ∧ w'.cell? ⟨g12, 2, none⟩ = some (.bool false) ∧ w'.cell? ⟨g12, 3, none⟩ = some (.slice M8 p8 s8) ∧ w'.cell? ⟨b2, o2 + i * 4, none⟩ = some (.bool an) ∧ w'.cell? ⟨b2, o2 + i * 4 + 1, none⟩ = some (.slice aA ak ac) ∧ w'.cell? ⟨b2, o2 + i * 4 + 2, none⟩ = some (.bool an') ∧ w'.cell? ⟨b2, o2 + i * 4 + 3, none⟩ = some (.slice aA' ak' ac')) ∧ Kp Y w' from fun w' hk => ⟨⟨(Kp.blk hk HTY.out.2.2.2.1).cell 0, (Kp.blk hk HTY.out.2.2.2.1).cell 1, (Kp.blk hk HTY.out.2.2.2.1).cell 2, (Kp.blk hk HTY.out.2.2.2.1).cell 3, (Kp.blk hk HTY.out.2.1).cell 0, (Kp.blk hk HTY.out.2.1).cell 1, (Kp.blk hk HTY.out.2.1).cell 2, (Kp.blk hk HTY.out.2.1).cell 3, (Kp.blk hk HBY.out).cell 0, (Kp.blk hk HBY.out).cell 1, (Kp.blk hk HBY.out).cell 2, (Kp.blk hk HBY.out).cell 3, (Below.cell hk (p := ⟨b2, _, none⟩) hbY2).trans z0, (Below.cell hk (p := ⟨b2, _, none⟩) hbY2).trans z1, (Below.cell hk (p := ⟨b2, _, none⟩) hbY2).trans z2, (Below.cell hk (p := ⟨b2, _, none⟩) hbY2).trans z3⟩, hk⟩)
       refine wp_region_front 9 2 _ (fun w' => (w'.cell? ⟨gx + 1, 0, none⟩ = some (.bool (decide (sq.num < 0))) ∧ w'.cell? ⟨gx + 1, 1, none⟩ = some (.slice R1 j3 d3) ∧ w'.cell? ⟨gx + 1, 2, none⟩ = some (.bool false) ∧ w'.cell? ⟨gx + 1, 3, none⟩ = some (.slice R2 j4 d4) ∧ w'.cell? ⟨gx, 0, none⟩ = some (.bool (decide (sm.num < 0))) ∧ w'.cell? ⟨gx, 1, none⟩ = some (.slice P1 j1 d1) ∧ w'.cell? ⟨gx, 2, none⟩ = some (.bool false) ∧ w'.cell? ⟨gx, 3, none⟩ = some (.slice P2 j2 d2) ∧ w'.cell? ⟨g12, 0, none⟩ = some (.bool (decide (co.num < 0))) ∧ w'.cell? ⟨g12, 1, none⟩ = some (.slice N8 n8 o8) ∧ w'.cell? ⟨g12, 2, none⟩ = some (.bool false) ∧ w'.cell? ⟨g12, 3, none⟩ = some (.slice M8 p8 s8) ∧ w'.cell? ⟨b2, o2 + i * 4, none⟩ = some (.bool an) ∧ w'.cell? ⟨b2, o2 + i * 4 + 1, none⟩ = some (.slice aA ak ac) ∧ w'.cell? ⟨b2, o2 + i * 4 + 2, none⟩ = some (.bool an') ∧ w'.cell? ⟨b2, o2 + i * 4 + 3, none⟩ = some (.slice aA' ak' ac')) ∧ Kp Y w') (by kernel_rfl) (by kernel_rfl) rfl (HS13.out _ (Kp.drew (Kp.refl Y))) (fun hHeld => ?_)
       simp only [List.toList_toArray, List.take_succ_cons, List.take_zero]
       refine' tkk 0 rfl (by kernel_rfl) (fun _ _ _ h => h) (.inl ⟨by rfl, ?_⟩) (by assumption) ?_; rotate_left
       ·(intro w hSw; (try dsimp only at hSw); (try simp only [p1, p2, p3]); go_simp; first | done | with_reducible rfl)
       (try simp only [Act.put, p1, p2, p3, p4, p5, p6])
       refine' tkk 1 rfl (by kernel_rfl) (fun _ _ _ h => h) (.inl ⟨by rfl, ?_⟩) (by assumption) ?_; rotate_left
       ·(intro w hSw; (try dsimp only at hSw); (try simp only [p1, p2, p3]); go_simp; first | done | with_reducible rfl)
       (try simp only [Act.put, p1, p2, p3, p4, p5, p6])
       refine' tkk 3 rfl (by kernel_rfl) (fun _ _ _ h => h) (.inl ⟨by rfl, ?_⟩) (by assumption) ?_; rotate_left
       ·(intro w hSw; (try dsimp only at hSw); (try simp only [p1, p2, p3]); go_simp; first | done | with_reducible rfl)
       (try simp only [Act.put, p1, p2, p3, p4, p5, p6])
       refine' tkk 4 rfl (by kernel_rfl) (fun _ _ _ h => h) (.inl ⟨by rfl, ?_⟩) (by assumption) ?_; rotate_left
       ·(intro w hSw; (try dsimp only at hSw); (try simp only [p1, p2, p3]); go_simp; first | done | with_reducible rfl)
       (try simp only [Act.put, p1, p2, p3, p4, p5, p6])
       refine' tkk 5 rfl (by kernel_rfl) (fun _ _ _ h => h) (.inl ⟨by rfl, ?_⟩) (by assumption) ?_; rotate_left
       ·(intro w hSw; (try dsimp only at hSw); (try simp only [p1, p2, p3]); go_simp; first | done | with_reducible rfl)
       (try simp only [Act.put, p1, p2, p3, p4, p5, p6])
       refine' tkk 6 rfl (by kernel_rfl) (fun _ _ _ h => h) (.inl ⟨by rfl, ?_⟩) (by assumption) ?_; rotate_left
       ·(intro w hSw; (try dsimp only at hSw); (try simp only [p1, p2, p3]); go_simp; first | done | with_reducible rfl)
       (try simp only [Act.put, p1, p2, p3, p4, p5, p6])
       refine' tkk 7 rfl (by kernel_rfl) (fun _ _ _ h => h) (.inl ⟨by rfl, ?_⟩) (by assumption) ?_; rotate_left
       ·(intro w hSw; (try dsimp only at hSw); (try simp only [p1, p2, p3]); go_simp; first | done | with_reducible rfl)
       (try simp only [Act.put, p1, p2, p3, p4, p5, p6])
       refine wpAnyH_ready (rs := [2]) (by kernel_rfl) (by simp) ?_
       refine AllReadyH.cons rfl (fun K hK => ?_) AllReadyH.nil
       (try simp only [p1, p2, p3])
       go_simp
       have hk := And.right ‹_ ∧ Kp Y _›
       refine (TM1.out _ hk).mono ?_
       rintro e v5 ⟨Xa1, xa2, xa3, Xa4, xa5, xa6, rfl, hk1, hk2, hW1, hW2, hF1, hF2, hbx⟩
       have hp : Kp Y v5 := Kp.trans hk hbx
       have hszz := Nat.le_trans HTY.out.1.size (Below.size hk)
       have cqa : CQ w.heap.size v5 sm' Xa1 xa2 xa3 Xa4 xa5 xa6 := ⟨hk1, hk2, hW1, hW2, hF1.mono hszz, hF2.mono hszz⟩
       clear hk hbx hk1 hk2 hW1 hW2 hF1 hF2 hszz
       (try (go_wp2_with fail))
       refine hK.out _ _ ?k25 (fun hHeld25 => ?n25)
       case k25 => ((try dsimp only); first | (with_reducible refine HS13.out _ ?_; with_reducible assumption) | (with_reducible refine HS13.out _ (Kp.drew ?_); with_reducible assumption) | (with_reducible refine' HS13.out _ (Kp.drew (And.right ?_)); rotate_left; with_reducible assumption))
       clear hK K
       (try simp only [Act.put, p1, p2, p3, p4, p5, p6])
       refine wpAnyH_ready (rs := [8]) (by kernel_rfl) (by simp) ?_
       refine AllReadyH.cons rfl (fun K hK => ?_) AllReadyH.nil
       (try simp only [p1, p2, p3])
       go_simp
       have hk := And.right ‹_ ∧ Kp Y _›
       refine (TQ1.out _ hk).mono ?_
       rintro e v8 ⟨Xb1, xb2, xb3, Xb4, xb5, xb6, rfl, hk1, hk2, hW1, hW2, hF1, hF2, hbx⟩
       have hp : Kp Y v8 := Kp.trans hk hbx
       have hszz := Nat.le_trans HTY.out.1.size (Below.size hk)
       have cqb : CQ w.heap.size v8 sq' Xb1 xb2 xb3 Xb4 xb5 xb6 := ⟨hk1, hk2, hW1, hW2, hF1.mono hszz, hF2.mono hszz⟩
       (try replace cqa := cqa.below hbx)
       clear hk hbx hk1 hk2 hW1 hW2 hF1 hF2 hszz
       (try (go_wp2_with fail))
       refine hK.out _ _ ?k26 (fun hHeld26 => ?n26)
       case k26 => ((try dsimp only); first | (with_reducible refine HS13.out _ ?_; with_reducible assumption) | (with_reducible refine HS13.out _ (Kp.drew ?_); with_reducible assumption) | (with_reducible refine' HS13.out _ (Kp.drew (And.right ?_)); rotate_left; with_reducible assumption))
       clear hK K
       (try simp only [Act.put, p1, p2, p3, p4, p5, p6])
       refine wpAnyH_done (by kernel_rfl) ?_ _
       (try clear hHeld25)
       (try clear hHeld26)
       unfold Qfr
       dsimp only
       have hbq := Kp.blk hp HTY.out.2.2.2.1
       have hbm := Kp.blk hp HTY.out.2.1
       obtain ⟨_, _, _, _, f10, f11, f12, f13⟩ := hbq.four
       obtain ⟨_, _, _, _, f20, f21, f22, f23⟩ := hbm.four
       refine wpAny_ready (rs := [9]) (by kernel_rfl) (by simp) ?_
       refine AllReady.cons rfl (fun K hK => ?_) AllReady.nil
       (try simp only [List.getElem_toArray, List.getElem_cons_zero, List.getElem_cons_succ])
       go_simp
       refine hK _ _ ?_
       clear hK K
       (try simp only [Act.put, List.getElem_toArray, List.getElem_cons_zero, List.getElem_cons_succ, List.setIfInBounds_toArray, List.set_cons_zero, List.set_cons_succ])
       refine wpAny_ready (rs := [10]) (by kernel_rfl) (by simp) ?_
       refine AllReady.cons rfl (fun K hK => ?_) AllReady.nil
       (try simp only [List.getElem_toArray, List.getElem_cons_zero, List.getElem_cons_succ])
       go_simp
       refine hK _ _ ?_
       clear hK K
       (try simp only [Act.put, List.getElem_toArray, List.getElem_cons_zero, List.getElem_cons_succ, List.setIfInBounds_toArray, List.set_cons_zero, List.set_cons_succ])
       refine wpAny_done (by kernel_rfl) ?_ _
       have hp9 : TotR w (gx) (gx + 1) sm' sq' Xa1 xa2 xa3 Xa4 xa5 xa6 Xb1 xb2 xb3 Xb4 xb5 xb6 (((((((((v8.setCell ⟨gx, 0, none⟩ (.bool (decide ((sm').num < 0)))).setCell ⟨gx, 1, none⟩ (.slice Xa1 xa2 xa3)).setCell ⟨gx, 2, none⟩ (.bool false)).setCell ⟨gx, 3, none⟩ (.slice Xa4 xa5 xa6)).setCell ⟨gx + 1, 0, none⟩ (.bool (decide ((sq').num < 0)))).setCell ⟨gx + 1, 1, none⟩ (.slice Xb1 xb2 xb3)).setCell ⟨gx + 1, 2, none⟩ (.bool false)).setCell ⟨gx + 1, 3, none⟩ (.slice Xb4 xb5 xb6))) := ((HTY.out.call hp).put1 (m2 := sm') HGM.out hne2 cqa).put2 (s2 := sq') HGQ.out hne1 (cqb.put4 (o := 0) (a := decide (sm'.num < 0)) (b := false) (B := Xa1) (B' := Xa4) (j := xa2) (d := xa3) (j' := xa5) (d' := xa6) hbm NoInt.four)
       have hk9 : Below V2.heap.size V2 (((((((((v8.setCell ⟨gx, 0, none⟩ (.bool (decide ((sm').num < 0)))).setCell ⟨gx, 1, none⟩ (.slice Xa1 xa2 xa3)).setCell ⟨gx, 2, none⟩ (.bool false)).setCell ⟨gx, 3, none⟩ (.slice Xa4 xa5 xa6)).setCell ⟨gx + 1, 0, none⟩ (.bool (decide ((sq').num < 0)))).setCell ⟨gx + 1, 1, none⟩ (.slice Xb1 xb2 xb3)).setCell ⟨gx + 1, 2, none⟩ (.bool false)).setCell ⟨gx + 1, 3, none⟩ (.slice Xb4 xb5 xb6))) := (show Below V2.heap.size V2 (qst (qst v8 (gx) 0 (decide (sm'.num < 0)) false Xa1 Xa4 xa2 xa3 xa5 xa6) (gx + 1) 0 (decide (sq'.num < 0)) false Xb1 Xb4 xb2 xb3 xb5 xb6) from below_qst (below_qst (HKY.out.trans (Below.mono hp HKY.out.size)) (by have := HG5.out; omega)) (by have := HG5.out; omega))
       generalize ((((((((v8.setCell ⟨gx, 0, none⟩ (.bool (decide ((sm').num < 0)))).setCell ⟨gx, 1, none⟩ (.slice Xa1 xa2 xa3)).setCell ⟨gx, 2, none⟩ (.bool false)).setCell ⟨gx, 3, none⟩ (.slice Xa4 xa5 xa6)).setCell ⟨gx + 1, 0, none⟩ (.bool (decide ((sq').num < 0)))).setCell ⟨gx + 1, 1, none⟩ (.slice Xb1 xb2 xb3)).setCell ⟨gx + 1, 2, none⟩ (.bool false)).setCell ⟨gx + 1, 3, none⟩ (.slice Xb4 xb5 xb6)) = Y9 at *
       have HF := Lib.hid hp9
       have HK9 := Lib.hid hk9
       clear hp9 hk9 cqa cqb hp hbq hbm f10 f11 f12 f13 f20 f21 f22 f23 TQ1 TM1 HS13 HQY HBY HKY HTY z0 z1 z2 z3 hbY2
       clear HNM HNQ HCOL
       go_wp2_with fail
       go_roundw
       case rel => exact ⟨i + 1, Xa1, xa2, xa3, Xa4, xa5, xa6, Xb1, xb2, xb3, Xb4, xb5, xb6, by omega, by first | rfl | go_num, by rw [HSM1.out, HSQ1.out]; exact HF, HK9⟩
       case measure => simp [intOf]; omega
      exact AllReadyH.nil
     ·obtain rfl : rn = i := by omega
      rw [HS5.out, HS4.out] at HT
      have HW9 := Lib.hid HT.out.1
      have HBC3 := Lib.hid (Kp.blk HKW.out HBC.out.1)
      have HBM3 := Lib.hid (Kp.blk HKW.out HT1'.out.2.1)
      have HBQ3 := Lib.hid (Kp.blk HKW.out HT1'.out.1)
      have HBO3 := Lib.hid HT.out.2.1
      have HBA3 := Lib.hid HT.out.2.2.2.1
      have hqc := WQ.below HBC.out.2 HKW.out
      have hqm := WQ.below HT1'.out.2.2.2 HKW.out
      have hqq := WQ.below HT1'.out.2.2.1 HKW.out
      have hqo := HT.out.2.2.1.wq
      have hqa := HT.out.2.2.2.2.wq
      have hlc : Ls 10000 cc := HLC.out.mono (by decide)
      have hlm : Ls 10000 m9 := HLM9.out.mono (by decide)
      have hlq : Ls 10000 q9 := HLQ9.out.mono (by decide)
      have TC := Lib.hid (fun (W : World) (hW : Kp wz W) => cmp_s (s := 10000) (RQ.qs (WQ.below hqc hW) hlc (by decide)) (RQ.qs (WQ.below hqm hW) hlm (by decide)))
      have TE1 := Lib.hid (fun (W : World) (hW : Kp wz W) => eq_same (s := 10000) (RQ.qs (WQ.below hqo hW) hlc (by decide)) (RQ.qs (WQ.below hqc hW) hlc (by decide)))
      have TE2 := Lib.hid (fun (W : World) (hW : Kp wz W) => eq_same (s := 10000) (RQ.qs (WQ.below hqa hW) hlq (by decide)) (RQ.qs (WQ.below hqq hW) hlq (by decide)))
      have HXS3 := Lib.hid (HXS2.out.below HKW.out)
      have HQR3 := Lib.hid (HQR.out.below HT.out.1)
      clear hqc hqm hqq hqo hqa hlc hlm hlq HT HKW HT1' HBC HXS2 HQR HLC HLM9 HLQ9 HX HGA HS4 HS5 HLX HLQ HG5 HGX HB2
      obtain ⟨_, _, _, _, f10, f11, f12, f13⟩ := HBC3.out.four
      obtain ⟨_, _, _, _, f20, f21, f22, f23⟩ := HBM3.out.four
      go_wp2_with fail
      refine (TC.out wz (Kp.refl _)).mono ?_
      rintro e v8 ⟨rfl, hp⟩
      clear TC f10 f11 f12 f13 f20 f21 f22 f23
      have HP := Lib.hid hp
      clear hp
      by_cases hcm : cc = m9
      ·have hz : cmpQ cc m9 = 0 := cmpQ_zero.2 hcm
       have HCM := Lib.hid hcm
       clear hcm
       cases bids
       ·rw [hz]
        clear hz HS6
        obtain ⟨_, _, _, _, f10, f11, f12, f13⟩ := (Kp.blk HP.out HBO3.out).four
        obtain ⟨_, _, _, _, f20, f21, f22, f23⟩ := (Kp.blk HP.out HBC3.out).four
        go_wp2_with fail
        refine (TE1.out v8 HP.out).mono ?_
        rintro e v9 ⟨rfl, hb9⟩
        have HP9 := Lib.hid (Kp.trans HP.out hb9)
        obtain ⟨_, _, _, _, g10, g11, g12, g13⟩ := (Kp.blk HP9.out HBA3.out).four
        obtain ⟨_, _, _, _, g20, g21, g22, g23⟩ := (Kp.blk HP9.out HBQ3.out).four
        clear hb9 HP f10 f11 f12 f13 f20 f21 f22 f23
        go_wp2_with fail
        refine (TE2.out v9 HP9.out).mono ?_
        rintro e v10 ⟨rfl, hb10⟩
        have HP := Lib.hid (Kp.trans HP9.out hb10)
        clear hb10 HP9 g10 g11 g12 g13 g20 g21 g22 g23
        clear TE1 TE2
        have HK0 := Lib.hid HP.out
        clear HP HBC3 HBM3 HBQ3 HBO3 HBA3
        go_wp2_with fail
        go_loopw [24] (fun t wr => ∃ i : Nat, i ≤ rn ∧ t = .int .i64 i ∧ Hid (Kp wz wr) ∧ Hid (∀ j, j < i → xs[j]?.getD 0 = gs[j]?.getD 0)) (fun t _ => rn - (intOf t).toNat)
        case atStart => exact ⟨0, Nat.zero_le _, rfl, HK0.out, fun j hj => absurd hj (by omega)⟩
        case round =>
         clear HK0
         obtain ⟨i, hi, rfl, HKZ, HPV⟩ := hrel
         obtain ⟨wy, rfl⟩ : ∃ u, u = wr := ⟨_, rfl⟩
         have HWY := Lib.hid (HW9.out.trans (Below.mono HKZ.out HW9.out.size))
         by_cases hlt : i < rn
         ·obtain ⟨b2, o2, rfl, hb02, hc2⟩ := (HXS3.out.below HKZ.out).2 (by omega)
          obtain ⟨an, aA, ak, ac, an', aA', ak', ac', y0, y1, y2, y3, hqs⟩ := hc2 i hlt
          obtain ⟨b3, o3, rfl, hb03, hc3⟩ := (HQR3.out.below HKZ.out).2 (by omega)
          obtain ⟨bn, bA, bk, bc, bn', bA', bk', bc', z0, z1, z2, z3, hqs'⟩ := hc3 i hlt
          have hbl := hb02
          have hbl' := hb03
          have HXE0 : Hid (xs[i]?.getD 0 = xs[i]?.getD 0) := Lib.hid rfl
          have HRE0 : Hid (gs[i]?.getD 0 = gs[i]?.getD 0) := Lib.hid rfl
          generalize hxe : xs[i]?.getD 0 = x at *
          generalize hre : gs[i]?.getD 0 = r at *
          have HXE := Lib.hid hxe
          have HRE := Lib.hid hre
          have TC := Lib.hid (fun W (hW : Kp wy W) => cmp_s (s := 6241) (hqs.below hW) ((hqs'.below hW).mono (by decide)))
          have i1 : (0 : Int) ≤ (i : Int) := by omega
          have i2 : (i : Int) < (rn : Int) := by omega
          clear hc2 hc3 hqs hqs' hxe hre hb02 hb03 HXE0 HRE0
          go_wp2_with fail
          have HS := Lib.hid (show ∀ w', Kp wy w' → (w'.cell? ⟨b2, o2 + i * 4, none⟩ = some (.bool an) ∧ w'.cell? ⟨b2, o2 + i * 4 + 1, none⟩ = some (.slice aA ak ac) ∧ w'.cell? ⟨b2, o2 + i * 4 + 2, none⟩ = some (.bool an') ∧ w'.cell? ⟨b2, o2 + i * 4 + 3, none⟩ = some (.slice aA' ak' ac') ∧ w'.cell? ⟨b3, o3 + i * 4, none⟩ = some (.bool bn) ∧ w'.cell? ⟨b3, o3 + i * 4 + 1, none⟩ = some (.slice bA bk bc) ∧ w'.cell? ⟨b3, o3 + i * 4 + 2, none⟩ = some (.bool bn') ∧ w'.cell? ⟨b3, o3 + i * 4 + 3, none⟩ = some (.slice bA' bk' bc')) ∧ Kp wy w' from fun w' hk => ⟨⟨(Below.cell hk (p := ⟨b2, _, none⟩) hbl).trans y0, (Below.cell hk (p := ⟨b2, _, none⟩) hbl).trans y1, (Below.cell hk (p := ⟨b2, _, none⟩) hbl).trans y2, (Below.cell hk (p := ⟨b2, _, none⟩) hbl).trans y3, (Below.cell hk (p := ⟨b3, _, none⟩) hbl').trans z0, (Below.cell hk (p := ⟨b3, _, none⟩) hbl').trans z1, (Below.cell hk (p := ⟨b3, _, none⟩) hbl').trans z2, (Below.cell hk (p := ⟨b3, _, none⟩) hbl').trans z3⟩, hk⟩)
          refine wp_region_held_drew (S := fun w' => (w'.cell? ⟨b2, o2 + i * 4, none⟩ = some (.bool an) ∧ w'.cell? ⟨b2, o2 + i * 4 + 1, none⟩ = some (.slice aA ak ac) ∧ w'.cell? ⟨b2, o2 + i * 4 + 2, none⟩ = some (.bool an') ∧ w'.cell? ⟨b2, o2 + i * 4 + 3, none⟩ = some (.slice aA' ak' ac') ∧ w'.cell? ⟨b3, o3 + i * 4, none⟩ = some (.bool bn) ∧ w'.cell? ⟨b3, o3 + i * 4 + 1, none⟩ = some (.slice bA bk bc) ∧ w'.cell? ⟨b3, o3 + i * 4 + 2, none⟩ = some (.bool bn') ∧ w'.cell? ⟨b3, o3 + i * 4 + 3, none⟩ = some (.slice bA' bk' bc')) ∧ Kp wy w') (by kernel_rfl) (HS.out _ (Kp.drew (Kp.refl wy))) (fun hHeld => ?_)
          refine' tkk 0 rfl (by kernel_rfl) (fun _ _ _ h => h) (.inl ⟨by rfl, ?_⟩) (by assumption) ?_; rotate_left
          ·(intro w hSw; (try dsimp only at hSw); (try simp only [p1, p2, p3]); go_simp; first | done | with_reducible rfl)
          (try simp only [Act.put, p1, p2, p3, p4, p5, p6])
          refine' tkk 1 rfl (by kernel_rfl) (fun _ _ _ h => h) (.inl ⟨by rfl, ?_⟩) (by assumption) ?_; rotate_left
          ·(intro w hSw; (try dsimp only at hSw); (try simp only [p1, p2, p3]); go_simp; first | done | with_reducible rfl)
          (try simp only [Act.put, p1, p2, p3, p4, p5, p6])
          refine' tkk 2 rfl (by kernel_rfl) (fun _ _ _ h => h) (.inl ⟨by rfl, ?_⟩) (by assumption) ?_; rotate_left
          ·(intro w hSw; (try dsimp only at hSw); (try simp only [p1, p2, p3]); go_simp; first | done | with_reducible rfl)
          (try simp only [Act.put, p1, p2, p3, p4, p5, p6])
          refine' tkk 3 rfl (by kernel_rfl) (fun _ _ _ h => h) (.inl ⟨by rfl, ?_⟩) (by assumption) ?_; rotate_left
          ·(intro w hSw; (try dsimp only at hSw); (try simp only [p1, p2, p3]); go_simp; first | done | with_reducible rfl)
          (try simp only [Act.put, p1, p2, p3, p4, p5, p6])
          refine' tkk 4 rfl (by kernel_rfl) (fun _ _ _ h => h) (.inl ⟨by rfl, ?_⟩) (by assumption) ?_; rotate_left
          ·(intro w hSw; (try dsimp only at hSw); (try simp only [p1, p2, p3]); go_simp; first | done | with_reducible rfl)
          (try simp only [Act.put, p1, p2, p3, p4, p5, p6])
          refine' tkk 5 rfl (by kernel_rfl) (fun _ _ _ h => h) (.inl ⟨by rfl, ?_⟩) (by assumption) ?_; rotate_left
          ·(intro w hSw; (try dsimp only at hSw); (try simp only [p1, p2, p3]); go_simp; first | done | with_reducible rfl)
          (try simp only [Act.put, p1, p2, p3, p4, p5, p6])
          refine' tkk 6 rfl (by kernel_rfl) (fun _ _ _ h => h) (.inl ⟨by rfl, ?_⟩) (by assumption) ?_; rotate_left
          ·(intro w hSw; (try dsimp only at hSw); (try simp only [p1, p2, p3]); go_simp; first | done | with_reducible rfl)
          (try simp only [Act.put, p1, p2, p3, p4, p5, p6])
          refine' tkk 7 rfl (by kernel_rfl) (fun _ _ _ h => h) (.inl ⟨by rfl, ?_⟩) (by assumption) ?_; rotate_left
          ·(intro w hSw; (try dsimp only at hSw); (try simp only [p1, p2, p3]); go_simp; first | done | with_reducible rfl)
          (try simp only [Act.put, p1, p2, p3, p4, p5, p6])
          refine wpAnyH_ready (rs := [8]) (by kernel_rfl) (by simp) ?_
          refine AllReadyH.cons rfl (fun K hK => ?_) AllReadyH.nil
          (try simp only [p1, p2, p3])
          go_simp
          have hk := And.right ‹_ ∧ Kp wy _›
          refine (TC.out _ hk).mono ?_
          rintro e v8 ⟨rfl, hbx⟩
          have hp : Kp wy v8 := Kp.trans hk hbx
          clear hk hbx
          (try (go_wp2_with fail))
          refine hK.out _ _ ?k27 (fun hHeld27 => ?n27)
          case k27 => ((try dsimp only); first | (with_reducible refine HS.out _ ?_; with_reducible assumption) | (with_reducible refine HS.out _ (Kp.drew ?_); with_reducible assumption) | (with_reducible refine' HS.out _ (Kp.drew (And.right ?_)); rotate_left; with_reducible assumption))
          clear hK K
          (try simp only [Act.put, p1, p2, p3, p4, p5, p6])
          refine' tkk 9 rfl (by kernel_rfl) (fun _ _ _ h => h) (.inl ⟨by rfl, ?_⟩) (by assumption) ?_; rotate_left
          ·(intro w hSw; (try dsimp only at hSw); (try simp only [p1, p2, p3]); go_simp; first | done | with_reducible rfl)
          (try simp only [Act.put, p1, p2, p3, p4, p5, p6])
          refine wpAnyH_done (by kernel_rfl) ?_ _
          (try clear hHeld27)
          clear HS
          have HF := Lib.hid (HWY.out.trans (Below.mono hp HWY.out.size))
          have hp9 := Lib.hid (Kp.trans HKZ.out hp)
          by_cases hcv : cmpQ x r = 0
          ·have HEQ := Lib.hid (cmpQ_zero.1 hcv)
           have hb : (cmpQ x r != 0) = false := by rw [hcv]; rfl
           generalize cmpQ x r = cv at *
           clear hcv hp HF HWY
           go_wp2_with fail
           go_roundw
           case rel => exact ⟨i + 1, by omega, by first | rfl | go_num, hp9.out, fun j hj => by
            by_cases hji : j < i
            ·exact HPV.out j hji
            ·obtain rfl : j = i := by omega
             rw [HXE.out, HRE.out]
             exact HEQ.out⟩
           case measure => simp [intOf]; omega
          ·have hlt9 : x < r := by
            have h7 := HS7.out HCM.out i hlt HPV.out (by rw [HXE.out, HRE.out]; exact fun hh => hcv (cmpQ_zero.2 hh))
            rw [HXE.out, HRE.out] at h7
            exact h7
           have hneg : cmpQ x r = -1 := cmpQ_lt.2 hlt9
           have hb : (cmpQ x r != 0) = true := by rw [hneg]; rfl
           have hc2 : decide (cmpQ x r < 0) = true := by rw [hneg]; decide
           generalize cmpQ x r = cv at *
           clear hlt9 hcv hp HWY hneg hp9
           go_wp2_with fail
           go_ret
           exact ⟨rfl, HF.out⟩
         ·obtain rfl : rn = i := by omega
          clear HPV HKZ
          go_wp2
          go_ret
          exact ⟨rfl, HWY.out⟩
       ·rw [hz]
        clear hz HS6
        obtain ⟨_, _, _, _, f10, f11, f12, f13⟩ := (Kp.blk HP.out HBO3.out).four
        obtain ⟨_, _, _, _, f20, f21, f22, f23⟩ := (Kp.blk HP.out HBC3.out).four
        go_wp2_with fail
        refine (TE1.out v8 HP.out).mono ?_
        rintro e v9 ⟨rfl, hb9⟩
        have HP9 := Lib.hid (Kp.trans HP.out hb9)
        obtain ⟨_, _, _, _, g10, g11, g12, g13⟩ := (Kp.blk HP9.out HBA3.out).four
        obtain ⟨_, _, _, _, g20, g21, g22, g23⟩ := (Kp.blk HP9.out HBQ3.out).four
        clear hb9 HP f10 f11 f12 f13 f20 f21 f22 f23
        go_wp2_with fail
        refine (TE2.out v9 HP9.out).mono ?_
        rintro e v10 ⟨rfl, hb10⟩
        have HP := Lib.hid (Kp.trans HP9.out hb10)
        clear hb10 HP9 g10 g11 g12 g13 g20 g21 g22 g23
        clear TE1 TE2
        have HK0 := Lib.hid HP.out
        clear HP HBC3 HBM3 HBQ3 HBO3 HBA3
        go_wp2_with fail
        go_loopw [24] (fun t wr => ∃ i : Nat, i ≤ rn ∧ t = .int .i64 i ∧ Hid (Kp wz wr) ∧ Hid (∀ j, j < i → xs[j]?.getD 0 = gs[j]?.getD 0)) (fun t _ => rn - (intOf t).toNat)
        case atStart => exact ⟨0, Nat.zero_le _, rfl, HK0.out, fun j hj => absurd hj (by omega)⟩
        case round =>
         clear HK0
         obtain ⟨i, hi, rfl, HKZ, HPV⟩ := hrel
         obtain ⟨wy, rfl⟩ : ∃ u, u = wr := ⟨_, rfl⟩
         have HWY := Lib.hid (HW9.out.trans (Below.mono HKZ.out HW9.out.size))
         by_cases hlt : i < rn
         ·obtain ⟨b2, o2, rfl, hb02, hc2⟩ := (HXS3.out.below HKZ.out).2 (by omega)
          obtain ⟨an, aA, ak, ac, an', aA', ak', ac', y0, y1, y2, y3, hqs⟩ := hc2 i hlt
          obtain ⟨b3, o3, rfl, hb03, hc3⟩ := (HQR3.out.below HKZ.out).2 (by omega)
          obtain ⟨bn, bA, bk, bc, bn', bA', bk', bc', z0, z1, z2, z3, hqs'⟩ := hc3 i hlt
          have hbl := hb02
          have hbl' := hb03
          have HXE0 : Hid (xs[i]?.getD 0 = xs[i]?.getD 0) := Lib.hid rfl
          have HRE0 : Hid (gs[i]?.getD 0 = gs[i]?.getD 0) := Lib.hid rfl
          generalize hxe : xs[i]?.getD 0 = x at *
          generalize hre : gs[i]?.getD 0 = r at *
          have HXE := Lib.hid hxe
          have HRE := Lib.hid hre
          have TC := Lib.hid (fun W (hW : Kp wy W) => cmp_s (s := 6241) (hqs.below hW) ((hqs'.below hW).mono (by decide)))
          have i1 : (0 : Int) ≤ (i : Int) := by omega
          have i2 : (i : Int) < (rn : Int) := by omega
          clear hc2 hc3 hqs hqs' hxe hre hb02 hb03 HXE0 HRE0
          go_wp2_with fail
          have HS := Lib.hid (show ∀ w', Kp wy w' → (w'.cell? ⟨b2, o2 + i * 4, none⟩ = some (.bool an) ∧ w'.cell? ⟨b2, o2 + i * 4 + 1, none⟩ = some (.slice aA ak ac) ∧ w'.cell? ⟨b2, o2 + i * 4 + 2, none⟩ = some (.bool an') ∧ w'.cell? ⟨b2, o2 + i * 4 + 3, none⟩ = some (.slice aA' ak' ac') ∧ w'.cell? ⟨b3, o3 + i * 4, none⟩ = some (.bool bn) ∧ w'.cell? ⟨b3, o3 + i * 4 + 1, none⟩ = some (.slice bA bk bc) ∧ w'.cell? ⟨b3, o3 + i * 4 + 2, none⟩ = some (.bool bn') ∧ w'.cell? ⟨b3, o3 + i * 4 + 3, none⟩ = some (.slice bA' bk' bc')) ∧ Kp wy w' from fun w' hk => ⟨⟨(Below.cell hk (p := ⟨b2, _, none⟩) hbl).trans y0, (Below.cell hk (p := ⟨b2, _, none⟩) hbl).trans y1, (Below.cell hk (p := ⟨b2, _, none⟩) hbl).trans y2, (Below.cell hk (p := ⟨b2, _, none⟩) hbl).trans y3, (Below.cell hk (p := ⟨b3, _, none⟩) hbl').trans z0, (Below.cell hk (p := ⟨b3, _, none⟩) hbl').trans z1, (Below.cell hk (p := ⟨b3, _, none⟩) hbl').trans z2, (Below.cell hk (p := ⟨b3, _, none⟩) hbl').trans z3⟩, hk⟩)
          refine wp_region_held_drew (S := fun w' => (w'.cell? ⟨b2, o2 + i * 4, none⟩ = some (.bool an) ∧ w'.cell? ⟨b2, o2 + i * 4 + 1, none⟩ = some (.slice aA ak ac) ∧ w'.cell? ⟨b2, o2 + i * 4 + 2, none⟩ = some (.bool an') ∧ w'.cell? ⟨b2, o2 + i * 4 + 3, none⟩ = some (.slice aA' ak' ac') ∧ w'.cell? ⟨b3, o3 + i * 4, none⟩ = some (.bool bn) ∧ w'.cell? ⟨b3, o3 + i * 4 + 1, none⟩ = some (.slice bA bk bc) ∧ w'.cell? ⟨b3, o3 + i * 4 + 2, none⟩ = some (.bool bn') ∧ w'.cell? ⟨b3, o3 + i * 4 + 3, none⟩ = some (.slice bA' bk' bc')) ∧ Kp wy w') (by kernel_rfl) (HS.out _ (Kp.drew (Kp.refl wy))) (fun hHeld => ?_)
          refine' tkk 0 rfl (by kernel_rfl) (fun _ _ _ h => h) (.inl ⟨by rfl, ?_⟩) (by assumption) ?_; rotate_left
          ·(intro w hSw; (try dsimp only at hSw); (try simp only [p1, p2, p3]); go_simp; first | done | with_reducible rfl)
          (try simp only [Act.put, p1, p2, p3, p4, p5, p6])
          refine' tkk 1 rfl (by kernel_rfl) (fun _ _ _ h => h) (.inl ⟨by rfl, ?_⟩) (by assumption) ?_; rotate_left
          ·(intro w hSw; (try dsimp only at hSw); (try simp only [p1, p2, p3]); go_simp; first | done | with_reducible rfl)
          (try simp only [Act.put, p1, p2, p3, p4, p5, p6])
          refine' tkk 2 rfl (by kernel_rfl) (fun _ _ _ h => h) (.inl ⟨by rfl, ?_⟩) (by assumption) ?_; rotate_left
          ·(intro w hSw; (try dsimp only at hSw); (try simp only [p1, p2, p3]); go_simp; first | done | with_reducible rfl)
          (try simp only [Act.put, p1, p2, p3, p4, p5, p6])
          refine' tkk 3 rfl (by kernel_rfl) (fun _ _ _ h => h) (.inl ⟨by rfl, ?_⟩) (by assumption) ?_; rotate_left
          ·(intro w hSw; (try dsimp only at hSw); (try simp only [p1, p2, p3]); go_simp; first | done | with_reducible rfl)
          (try simp only [Act.put, p1, p2, p3, p4, p5, p6])
          refine' tkk 4 rfl (by kernel_rfl) (fun _ _ _ h => h) (.inl ⟨by rfl, ?_⟩) (by assumption) ?_; rotate_left
          ·(intro w hSw; (try dsimp only at hSw); (try simp only [p1, p2, p3]); go_simp; first | done | with_reducible rfl)
          (try simp only [Act.put, p1, p2, p3, p4, p5, p6])
          refine' tkk 5 rfl (by kernel_rfl) (fun _ _ _ h => h) (.inl ⟨by rfl, ?_⟩) (by assumption) ?_; rotate_left
          ·(intro w hSw; (try dsimp only at hSw); (try simp only [p1, p2, p3]); go_simp; first | done | with_reducible rfl)
          (try simp only [Act.put, p1, p2, p3, p4, p5, p6])
          refine' tkk 6 rfl (by kernel_rfl) (fun _ _ _ h => h) (.inl ⟨by rfl, ?_⟩) (by assumption) ?_; rotate_left
          ·(intro w hSw; (try dsimp only at hSw); (try simp only [p1, p2, p3]); go_simp; first | done | with_reducible rfl)
          (try simp only [Act.put, p1, p2, p3, p4, p5, p6])
          refine' tkk 7 rfl (by kernel_rfl) (fun _ _ _ h => h) (.inl ⟨by rfl, ?_⟩) (by assumption) ?_; rotate_left
          ·(intro w hSw; (try dsimp only at hSw); (try simp only [p1, p2, p3]); go_simp; first | done | with_reducible rfl)
          (try simp only [Act.put, p1, p2, p3, p4, p5, p6])
          refine wpAnyH_ready (rs := [8]) (by kernel_rfl) (by simp) ?_
          refine AllReadyH.cons rfl (fun K hK => ?_) AllReadyH.nil
          (try simp only [p1, p2, p3])
          go_simp
          have hk := And.right ‹_ ∧ Kp wy _›
          refine (TC.out _ hk).mono ?_
          rintro e v8 ⟨rfl, hbx⟩
          have hp : Kp wy v8 := Kp.trans hk hbx
          clear hk hbx
          (try (go_wp2_with fail))
          refine hK.out _ _ ?k28 (fun hHeld28 => ?n28)
          case k28 => ((try dsimp only); first | (with_reducible refine HS.out _ ?_; with_reducible assumption) | (with_reducible refine HS.out _ (Kp.drew ?_); with_reducible assumption) | (with_reducible refine' HS.out _ (Kp.drew (And.right ?_)); rotate_left; with_reducible assumption))
          clear hK K
          (try simp only [Act.put, p1, p2, p3, p4, p5, p6])
          refine' tkk 9 rfl (by kernel_rfl) (fun _ _ _ h => h) (.inl ⟨by rfl, ?_⟩) (by assumption) ?_; rotate_left
          ·(intro w hSw; (try dsimp only at hSw); (try simp only [p1, p2, p3]); go_simp; first | done | with_reducible rfl)
          (try simp only [Act.put, p1, p2, p3, p4, p5, p6])
          refine wpAnyH_done (by kernel_rfl) ?_ _
          (try clear hHeld28)
          clear HS
          have HF := Lib.hid (HWY.out.trans (Below.mono hp HWY.out.size))
          have hp9 := Lib.hid (Kp.trans HKZ.out hp)
          by_cases hcv : cmpQ x r = 0
          ·have HEQ := Lib.hid (cmpQ_zero.1 hcv)
           have hb : (cmpQ x r != 0) = false := by rw [hcv]; rfl
           generalize cmpQ x r = cv at *
           clear hcv hp HF HWY
           go_wp2_with fail
           go_roundw
           case rel => exact ⟨i + 1, by omega, by first | rfl | go_num, hp9.out, fun j hj => by
            by_cases hji : j < i
            ·exact HPV.out j hji
            ·obtain rfl : j = i := by omega
             rw [HXE.out, HRE.out]
             exact HEQ.out⟩
           case measure => simp [intOf]; omega
          ·have hlt9 : x < r := by
            have h7 := HS7.out HCM.out i hlt HPV.out (by rw [HXE.out, HRE.out]; exact fun hh => hcv (cmpQ_zero.2 hh))
            rw [HXE.out, HRE.out] at h7
            exact h7
           have hneg : cmpQ x r = -1 := cmpQ_lt.2 hlt9
           have hb : (cmpQ x r != 0) = true := by rw [hneg]; rfl
           have hc2 : decide (cmpQ x r < 0) = true := by rw [hneg]; decide
           generalize cmpQ x r = cv at *
           clear hlt9 hcv hp HWY hneg hp9
           go_wp2_with fail
           go_ret
           exact ⟨rfl, HF.out⟩
         ·obtain rfl : rn = i := by omega
          clear HPV HKZ
          go_wp2
          go_ret
          exact ⟨rfl, HWY.out⟩
      ·cases bids
       ·have h6 : cc ≤ m9 := by
         have := HS6.out
         simpa [noWorse] using this
        have hz : cmpQ cc m9 = -1 := cmpQ_lt.2 (by grind)
        clear h6 hcm
        rw [hz]
        clear hz HS6
        obtain ⟨_, _, _, _, f10, f11, f12, f13⟩ := (Kp.blk HP.out HBO3.out).four
        obtain ⟨_, _, _, _, f20, f21, f22, f23⟩ := (Kp.blk HP.out HBC3.out).four
        go_wp2_with fail
        refine (TE1.out v8 HP.out).mono ?_
        rintro e v9 ⟨rfl, hb9⟩
        have HP9 := Lib.hid (Kp.trans HP.out hb9)
        obtain ⟨_, _, _, _, g10, g11, g12, g13⟩ := (Kp.blk HP9.out HBA3.out).four
        obtain ⟨_, _, _, _, g20, g21, g22, g23⟩ := (Kp.blk HP9.out HBQ3.out).four
        clear hb9 HP f10 f11 f12 f13 f20 f21 f22 f23
        go_wp2_with fail
        refine (TE2.out v9 HP9.out).mono ?_
        rintro e v10 ⟨rfl, hb10⟩
        have HP := Lib.hid (Kp.trans HP9.out hb10)
        clear hb10 HP9 g10 g11 g12 g13 g20 g21 g22 g23
        clear TE1 TE2
        have HF0 := Lib.hid (HW9.out.trans (Below.mono HP.out HW9.out.size))
        clear HP HBC3 HBM3 HBQ3 HBO3 HBA3
        go_wp2_with fail
        go_loopw [24] (fun t wr => t = .int .i64 0 ∧ Hid (Below w.heap.size w wr)) (fun t _ => 0)
        case atStart => exact ⟨rfl, HF0.out⟩
        case round =>
         clear HF0
         obtain ⟨rfl, HF⟩ := hrel
         by_cases h0 : (0 : Int) < (rn : Int)
         ·go_wp2
          go_ret
          exact ⟨rfl, HF.out⟩
         ·go_wp2
          go_ret
          exact ⟨rfl, HF.out⟩
       ·have h6 : m9 ≤ cc := by
         have := HS6.out
         simpa [noWorse] using this
        have hz : cmpQ cc m9 = 1 := by
         have h7 : m9 < cc := by grind
         have h8 : ¬ cc < m9 := by grind
         unfold cmpQ
         rw [if_neg h8, if_pos h7]
        clear h6 hcm
        rw [hz]
        clear hz HS6
        obtain ⟨_, _, _, _, f10, f11, f12, f13⟩ := (Kp.blk HP.out HBO3.out).four
        obtain ⟨_, _, _, _, f20, f21, f22, f23⟩ := (Kp.blk HP.out HBC3.out).four
        go_wp2_with fail
        refine (TE1.out v8 HP.out).mono ?_
        rintro e v9 ⟨rfl, hb9⟩
        have HP9 := Lib.hid (Kp.trans HP.out hb9)
        obtain ⟨_, _, _, _, g10, g11, g12, g13⟩ := (Kp.blk HP9.out HBA3.out).four
        obtain ⟨_, _, _, _, g20, g21, g22, g23⟩ := (Kp.blk HP9.out HBQ3.out).four
        clear hb9 HP f10 f11 f12 f13 f20 f21 f22 f23
        go_wp2_with fail
        refine (TE2.out v9 HP9.out).mono ?_
        rintro e v10 ⟨rfl, hb10⟩
        have HP := Lib.hid (Kp.trans HP9.out hb10)
        clear hb10 HP9 g10 g11 g12 g13 g20 g21 g22 g23
        clear TE1 TE2
        have HF0 := Lib.hid (HW9.out.trans (Below.mono HP.out HW9.out.size))
        clear HP HBC3 HBM3 HBQ3 HBO3 HBA3
        go_wp2_with fail
        go_loopw [24] (fun t wr => t = .int .i64 0 ∧ Hid (Below w.heap.size w wr)) (fun t _ => 0)
        case atStart => exact ⟨rfl, HF0.out⟩
        case round =>
         clear HF0
         obtain ⟨rfl, HF⟩ := hrel
         by_cases h0 : (0 : Int) < (rn : Int)
         ·go_wp2
          go_ret
          exact ⟨rfl, HF.out⟩
         ·go_wp2
          go_ret
          exact ⟨rfl, HF.out⟩
 ·have hm := g3 hck
  subst hm
  generalize (ckC (!bids) ls).2 = x at *
  have dx : (x != 0) = true := by simpa using hck
  clear g1 g2 g3 hck hb4 HB3 HST
  go_wp2_with fail
  go_ret
  exact ⟨rfl, HB4.out⟩

theorem sopt_any (A R : Option Addr) (n c rn rc : Nat) (ls : List (List (Int × Int))) (bids : Bool) (er : List QE) (w : World) (h : CsAt w A n ls) (hr : GRaw w R rn er) : Calls Tryz.prog 6 #[.slice A n c, .bool bids, .slice R rn rc] w fun e w' => e = .returned (.bool true) ∧ Below w.heap.size w w' := by
 by_cases hx : longC ls = true ∨ rn ≠ n ∨ er.any bigQ = true
 ·exact sopt_short A R n c rn rc ls bids er w h hr hx
 ·have x1 : longC ls = false := Bool.eq_false_iff.2 fun hh => hx (Or.inl hh)
  have x2 : rn = n := Classical.byContradiction fun hh => hx (Or.inr (Or.inl hh))
  have x3 : er.any bigQ = false := Bool.eq_false_iff.2 fun hh => hx (Or.inr (Or.inr hh))
  exact sopt_yes A R n c rn rc ls bids er w h hr x1 x2 x3

end Go.Proofs.YtjajigkacccdgaaGreat
