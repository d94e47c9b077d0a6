/-
The walk of StackPermutation. No statement of the seat is proved here; no conditions beyond those of each theorem.
-/
import Derived.Test.YtnjpojpfiijlfaaGreatGL
import Derived.Test.YtnjpojpfiijlfaaGreatQ15
namespace Go.Proofs.YtnjpojpfiijlfaaGreat
set_option linter.unusedVariables false
set_option linter.unusedSimpArgs false
open Go.RowKit
open Wd

set_option maxRecDepth 100000 in
set_option maxHeartbeats 4000000 in
theorem sperm_short (A : Option Addr) (n c : Nat) (ls : List (List (Int × Int))) (bids : Bool) (q : Nat) (w : World) (h : CsAt w A n ls) (hx : longC ls = true ∨ n = 0) :
    Calls Tryz.prog 6 #[.slice A n c, .bool bids, .int .u8 (q : Int)] w fun e w' => e = .returned (.bool true) ∧ Below w.heap.size w w' := by
  have HAW := Lib.hid (fun W => awake24_any W)
  have HL := Lib.hid (long24_any A n c ls w h)
  by_cases hlg : longC ls = true
  · rw [hlg] at HL
    clear h hx hlg
    go_enter Tryz.func6, Tryz.ntmps6
    go_wp2_with fail
    refine HL.out.mono ?_
    rintro e w1 ⟨rfl, hb1⟩
    have HB1 := Lib.hid hb1
    clear hb1
    go_wp2_with fail
    refine (HAW.out w1).mono ?_
    rintro e w2 ⟨rfl, hb2⟩
    have HB2 := Lib.hid (HB1.out.trans (hb2.mono HB1.out.size))
    clear hb2
    go_wp2
    go_ret
    exact ⟨rfl, HB2.out⟩
  · rw [Bool.not_eq_true] at hlg
    obtain rfl : n = 0 := by
      rcases hx with hx | hx
      · rw [hx] at hlg; simp at hlg
      · exact hx
    rw [hlg] at HL
    clear h hx hlg
    go_enter Tryz.func6, Tryz.ntmps6
    go_wp2_with fail
    refine HL.out.mono ?_
    rintro e w1 ⟨rfl, hb1⟩
    have HB1 := Lib.hid hb1
    clear hb1
    go_wp2_with fail
    refine (HAW.out w1).mono ?_
    rintro e w2 ⟨rfl, hb2⟩
    have HB2 := Lib.hid (HB1.out.trans (hb2.mono HB1.out.size))
    clear hb2
    go_wp2
    go_ret
    exact ⟨rfl, HB2.out⟩

/-- While the row of rotated curves grows. -/
def RotR (w0 : World) (n q : Nat) (F : Nat → Option Addr × Nat × Nat) (i : Nat) (B : Option Addr) (cb : Nat) (wr : World) : Prop :=
  Below w0.heap.size w0 wr ∧ Own w0.heap.size 29 1 wr B i cb (((List.range i).map fun k => F ((k + q) % n)).map slv)

set_option maxRecDepth 100000 in
set_option maxHeartbeats 8000000 in
theorem sperm_main (A : Option Addr) (n c : Nat) (ls : List (List (Int × Int))) (bids : Bool) (q : Nat) (hq : q < 256) (w : World) (h : CsAt w A n ls) (hlg : longC ls = false) (hn0 : n ≠ 0) :
    Calls Tryz.prog 6 #[.slice A n c, .bool bids, .int .u8 (q : Int)] w fun e w' => e = .returned (.bool true) ∧ Below w.heap.size w w' := by
  have HAW := Lib.hid (fun W => awake24_any W)
  have HL := Lib.hid (long24_any A n c ls w h)
  rw [hlg] at HL
  have hlen := h.1
  have hn40 : n ≤ 40 := by have := (longC_no hlg).1; omega
  have HSM := Lib.hid (longC_small hlg)
  have HLN := Lib.hid hlen
  have HCS := Lib.hid h
  obtain ⟨b, o, F, rfl, hb, hF⟩ := h.cells hn0
  have HF := Lib.hid hF
  have d0 : ((n : Int) == 0) = false := by simp; omega
  obtain ⟨ii, hii, hz0, hz1, hz2⟩ := info_parts info_steps
  have HI := Lib.hid hii
  have HZ0 := Lib.hid hz0
  have HZ1 := Lib.hid hz1
  have HZ2 := Lib.hid hz2
  clear h hlg hF hii hz0 hz1 hz2 hlen
  go_enter Tryz.func6, Tryz.ntmps6
  go_wp2_with fail
  refine HL.out.mono ?_
  rintro e w1 ⟨rfl, hb1⟩
  have HB1 := Lib.hid hb1
  clear hb1 HL
  go_wp2_with fail
  refine (HAW.out w1).mono ?_
  rintro e w2 ⟨rfl, hb2⟩
  have HB2 := Lib.hid (HB1.out.trans (hb2.mono HB1.out.size))
  clear hb2 HAW HB1
  go_wp2_with fail
  go_loopw [7, 8] (fun tm t wr => ∃ (i : Nat) (B : Option Addr) (cb : Nat), i ≤ n ∧ t = .int .i64 i ∧ tm = .slice B i cb ∧ Hid (RotR w2 n q F i B cb wr)) (fun _ t _ => n - (intOf t).toNat)
  case atStart => exact ⟨0, none, 0, Nat.zero_le _, rfl, rfl, Below.refl _ _, Own.nil _ _ _ _⟩
  case round =>
    obtain ⟨i, B, cb, hi, rfl, rfl, hR⟩ := hrel
    by_cases hlt : i < n
    · obtain ⟨hRB, hO⟩ := hR.out
      obtain ⟨j, hj, hjn, hjd⟩ : ∃ j : Nat, ((i : Int) + (q : Int)) % (n : Int) = (j : Int) ∧ j < n ∧ j = (i + q) % n := ⟨(i + q) % n, by simp, Nat.mod_lt _ (by omega), rfl⟩
      have hcell := (HB2.out.trans (hRB.mono HB2.out.size)).cell (p := ⟨b, o + j, none⟩) hb
      rw [(HF.out j hjn).1] at hcell
      have hsn : ((List.range (i + 1)).map fun k => F ((k + q) % n)) = ((List.range i).map fun k => F ((k + q) % n)) ++ [F j] := by
        rw [List.range_succ, List.map_append, List.map_cons, List.map_nil, ← hjd]
      generalize (List.range i).map (fun k => F ((k + q) % n)) = vs at *
      have HSN := Lib.hid hsn
      generalize F j = f at *
      obtain ⟨Af, nf, cf⟩ := f
      simp only at hcell
      have i1 : (0 : Int) ≤ (i : Int) := by omega
      have i2 : (i : Int) < (n : Int) := by omega
      have j1 : (0 : Int) ≤ (j : Int) := by omega
      have j2 : (j : Int) < (n : Int) := by omega
      have xw : IntKind.i64.wrap ((i : Int) + (q : Int)) = (i : Int) + (q : Int) := IntWalk.i64_in _ (by omega)
      have hn0' : (n : Int) ≠ 0 := by omega
      have k1 := (Kp.refl wr).alloc (.cells #[.slice Af nf cf] 29)
      have o1 := hO.keep k1
      have m1 := Blk.new wr 29 #[.slice Af nf cf]
      have q1 : Below w2.heap.size w2 (wr.alloc (.cells #[.slice Af nf cf] 29)) := hRB.trans (Below.mono k1 hRB.size)
      clear hsn hR hO hjd
      go_wp2_with (first
        | (at_builtin; refine wpList_append_my rfl (base := w2.heap.size) (e := 29) (size := 1) (bytes := 24) (.tmp 33) (.tmp 44) 22 rfl Tryz.underlying22 HI.out HZ0.out HZ1.out HZ2.out rfl (by decide) (xs := vs.map slv) (news := [.slice Af nf cf]) rfl (by exact o1) rfl (by exact Blk.src m1 rfl (slv_one (Af, nf, cf))) (by simp only [maxLen]; omega) (by omega) (by exact q1.size) ?_
           intro B1 cb1 w3 hO1 hb1 hk1))
      go_roundw
      case rel => exact ⟨i + 1, B1, cb1, by omega, by go_num, rfl, q1.trans hb1, by rw [HSN.out, List.map_append]; exact hO1⟩
      case measure => simp [intOf]; omega
    · obtain rfl : i = n := by omega
      obtain ⟨hRB, hO⟩ := hR.out
      have hWB := HB2.out.trans (hRB.mono HB2.out.size)
      have hM : CsAt wr B i (rotL (q % i) ls) := by
        have hql : q % i ≤ ls.length := by rw [HLN.out]; exact Nat.le_of_lt (Nat.mod_lt _ (by omega))
        refine hO.css (by rw [rotL_len _ _ hql]; exact HLN.out) fun j hj => ?_
        have hr := rotL_get ([] : List (Int × Int)) q j ls (by rw [HLN.out]; exact hj)
        rw [HLN.out] at hr
        rw [hr]
        have := (HF.out ((j + q) % i) (Nat.mod_lt _ (by omega))).2.below hWB
        simpa [hj] using this
      have hMs : ∀ l ∈ rotL (q % i) ls, l.length ≤ 1000000000000 := fun l hl => HSM.out l (rotL_mem.1 hl)
      have hck : (ckC (!bids) ls).2 = 0 ↔ (ckC (!bids) (rotL (q % i) ls)).2 = 0 := by
        have hql : q % i ≤ ls.length := by rw [HLN.out]; exact Nat.le_of_lt (Nat.mod_lt _ (by omega))
        rw [ckC_iff, ckC_iff, rotL_len _ _ hql]
        exact ⟨fun h => ⟨h.1, fun l hl => h.2 l (rotL_mem.1 hl)⟩, fun h => ⟨h.1, fun l hl => h.2 l (rotL_mem.2 hl)⟩⟩
      have hrot : ∀ lv lv', St.IsLv (!bids) i (St.tri 0 ls) lv → St.IsLv (!bids) i (St.tri 0 (rotL (q % i) ls)) lv' → lv'.length = lv.length ∧ ∀ j, j < lv.length → (lv'[j]?.getD Lv0).1 = (lv[j]?.getD Lv0).1 ∧ (lv'[j]?.getD Lv0).2.1 = (lv[j]?.getD Lv0).2.1 ∧ (lv'[j]?.getD Lv0).2.2 = rotL (q % i) (lv[j]?.getD Lv0).2.2 := fun lv lv' h1 h2 => St.rot_levels HLN.out (Nat.le_of_lt (Nat.mod_lt _ (by omega))) h1 h2
      have HS1 := Lib.hid (stacked_any (some ⟨b, o, none⟩) i c ls bids wr (HCS.out.below hWB) HSM.out)
      have HS2 := Lib.hid (fun W (hW : Below wr.heap.size wr W) => stacked_any B i cb (rotL (q % i) ls) bids W (hM.below hW) hMs)
      have HCK := Lib.hid hck
      have HRT := Lib.hid hrot
      have HWB := Lib.hid hWB
      generalize (!bids) = up at *
      have hi0 : i ≠ 0 := hn0
      generalize hrq : rotL (q % i) ls = ls' at *
      clear hrq
      clear hR hRB hO hWB hM hMs hck hrot hb
      go_wp2_with fail
      refine HS1.out.mono ?_
      rintro e u1 ⟨A1, m1, cap1, lv1, rfl, hL1, hV1, hZ1, hb1⟩
      have HL1 := Lib.hid hL1
      have HV1 := Lib.hid hV1
      have HZ1 := Lib.hid hZ1
      have HU1 := Lib.hid hb1
      clear hL1 hV1 hZ1 hb1 HS1
      go_wp2_with fail
      refine (HS2.out u1 HU1.out).mono ?_
      rintro e u2 ⟨A2, m2, cap2, lv2, rfl, hL2, hV2, hZ2, hb2⟩
      generalize (ckC up ls).2 = x at *
      generalize (ckC up ls').2 = y at *
      have hl1 := HL1.out.1
      have hl2 := hL2.1
      obtain ⟨bx, hx0, hy0⟩ : ∃ bx, (x == 0) = bx ∧ (y == 0) = bx := by
        have := HCK.out
        by_cases h0 : x = 0
        · exact ⟨true, by simp [h0], by simp [this.1 h0]⟩
        · exact ⟨false, beq_false_of_ne h0, beq_false_of_ne fun e => h0 (this.2 e)⟩
      have hm : m2 = m1 := by
        by_cases h0 : x = 0
        · have := (HRT.out lv1 lv2 (HV1.out h0).1 (hV2 (HCK.out.1 h0)).1).1
          omega
        · rw [HZ1.out h0, hZ2 fun e => h0 (HCK.out.2 e)]
      subst hm
      have hlev : ∀ j, j < m2 → (lv2[j]?.getD Lv0).1 = (lv1[j]?.getD Lv0).1 ∧ (lv2[j]?.getD Lv0).2.1 = (lv1[j]?.getD Lv0).2.1 ∧ (lv2[j]?.getD Lv0).2.2 = rotL (q % i) (lv1[j]?.getD Lv0).2.2 := fun j hj => by
        by_cases h0 : x = 0
        · exact (HRT.out lv1 lv2 (HV1.out h0).1 (hV2 (HCK.out.1 h0)).1).2 j (by omega)
        · have := HZ1.out h0
          omega
      have hm48 : m2 ≤ 48 := by
        by_cases h0 : x = 0
        · have := (HV1.out h0).2.len
          omega
        · rw [HZ1.out h0]; omega
      have HLV := Lib.hid hlev
      have HL2 := Lib.hid hL2
      have HL1 := Lib.hid (HL1.out.below hb2)
      have HWF := Lib.hid (HWB.out.trans ((HU1.out.trans (hb2.mono HU1.out.size)).mono HWB.out.size))
      clear hL2 hV2 hZ2 hb2 hlev HCK HRT HV1 HZ1 HS2 hl1 hl2 HU1 HWB
      go_wp2_with fail
      go_loopw [13] (fun t wv => ∃ k : Nat, k ≤ m2 ∧ t = .int .i64 k ∧ Hid (Below u2.heap.size u2 wv)) (fun t _ => m2 - (intOf t).toNat)
      case atStart => exact ⟨0, Nat.zero_le _, rfl, Below.refl _ _⟩
      case round =>
        obtain ⟨k, hk, rfl, hBV⟩ := hrel
        obtain ⟨wv, rfl⟩ : ∃ v, v = wr := ⟨_, rfl⟩
        by_cases hlt2 : k < m2
        · obtain ⟨b1, o1, rfl, hb1, hc1⟩ := HL1.out.2 (by omega)
          obtain ⟨b2, o2, rfl, hb2, hc2⟩ := HL2.out.2 (by omega)
          obtain ⟨P1, d1, ⟨y0, y1, y2⟩, hI1⟩ := hc1 k hlt2
          obtain ⟨P2, d2, ⟨z0, z1, z2⟩, hI2⟩ := hc2 k hlt2
          obtain ⟨g1, g2, g3⟩ := HLV.out k hlt2
          rw [g1] at z0
          rw [g2] at z1
          rw [g3] at hI2
          generalize (lv1[k]?.getD Lv0).1 = p at *
          generalize (lv1[k]?.getD Lv0).2.1 = r at *
          generalize (lv1[k]?.getD Lv0).2.2 = xs at *
          replace y0 := (hBV.out.cell (p := ⟨b1, o1 + k * 3, none⟩) hb1).trans y0
          replace y1 := (hBV.out.cell (p := ⟨b1, o1 + k * 3 + 1, none⟩) hb1).trans y1
          replace y2 := (hBV.out.cell (p := ⟨b1, o1 + k * 3 + 2, none⟩) hb1).trans y2
          replace z0 := (hBV.out.cell (p := ⟨b2, o2 + k * 3, none⟩) hb2).trans z0
          replace z1 := (hBV.out.cell (p := ⟨b2, o2 + k * 3 + 1, none⟩) hb2).trans z1
          replace z2 := (hBV.out.cell (p := ⟨b2, o2 + k * 3 + 2, none⟩) hb2).trans z2
          have k1 : (0 : Int) ≤ (k : Int) := by omega
          have k2 : (k : Int) < (m2 : Int) := by omega
          have HI1 := Lib.hid (hI1.below hBV.out)
          have HI2 := Lib.hid (hI2.below hBV.out)
          have HG := Lib.hid (And.intro hb1 hb2)
          clear hc1 hc2 hI1 hI2 g1 g2 g3 hb1 hb2
          go_wp2_with fail
          go_quiet (fail)
          go_wp2_with fail
          go_loopw [14] (fun t wx => ∃ j : Nat, j ≤ i ∧ t = .int .i64 j ∧ Hid (Below wv.heap.size wv wx)) (fun t _ => i - (intOf t).toNat)
          case atStart => exact ⟨0, Nat.zero_le _, rfl, below_drewN (Below.refl _ _) _⟩
          case round =>
            obtain ⟨j, hj, rfl, hBX⟩ := hrel
            by_cases hlt3 : j < i
            · obtain ⟨r, hr, hrn, hrd⟩ : ∃ r : Nat, ((j : Int) + (q : Int)) % (i : Int) = (r : Int) ∧ r < i ∧ r = (j + q) % i := ⟨(j + q) % i, by simp, Nat.mod_lt _ (by omega), rfl⟩
              obtain ⟨e1, f1, rfl, he1, hs1⟩ := HI1.out.2 (by omega)
              obtain ⟨e2, f2, rfl, he2, hs2⟩ := HI2.out.2 (by omega)
              have hg := rotL_get (0 : Int) q j xs (by rw [HI1.out.1]; exact hlt3)
              rw [HI1.out.1, ← hrd] at hg
              have v1 := (hBX.out.cell (p := ⟨e1, f1 + r, none⟩) he1).trans (hs1 r hrn)
              have v2 := (hBX.out.cell (p := ⟨e2, f2 + j, none⟩) he2).trans (hs2 j hlt3)
              rw [hg] at v2
              generalize xs[r]?.getD 0 = v at *
              have u2' := (hBX.out.cell (p := ⟨b1, o1 + k * 3 + 2, none⟩) (Nat.lt_of_lt_of_le HG.out.1 hBV.out.size)).trans y2
              have u3' := (hBX.out.cell (p := ⟨b2, o2 + k * 3 + 2, none⟩) (Nat.lt_of_lt_of_le HG.out.2 hBV.out.size)).trans z2
              have j1 : (0 : Int) ≤ (j : Int) := by omega
              have j2 : (j : Int) < (i : Int) := by omega
              have r1 : (0 : Int) ≤ (r : Int) := by omega
              have r2 : (r : Int) < (i : Int) := by omega
              have xw : IntKind.i64.wrap ((j : Int) + (q : Int)) = (j : Int) + (q : Int) := IntWalk.i64_in _ (by omega)
              have hn0' : (i : Int) ≠ 0 := by omega
              clear hs1 hs2 hg hrd y0 y1 y2 z0 z1 z2
              go_wp2_with fail
              go_quiet (fail)
              go_wp2
              go_roundw
              case rel => exact ⟨j + 1, by omega, by go_num, below_drewN hBX.out _⟩
              case measure => simp [intOf]; omega
            · obtain rfl : j = i := by omega
              go_wp2
              go_roundw
              case rel => exact ⟨k + 1, by omega, by go_num, hBV.out.trans (hBX.out.mono hBV.out.size)⟩
              case measure => simp [intOf]; omega
        · obtain rfl : k = m2 := by omega
          go_wp2
          go_ret
          exact ⟨rfl, HWF.out.trans (hBV.out.mono HWF.out.size)⟩

theorem sperm_any (A : Option Addr) (n c : Nat) (ls : List (List (Int × Int))) (bids : Bool) (q : Nat) (hq : q < 256) (w : World) (h : CsAt w A n ls) :
    Calls Tryz.prog 6 #[.slice A n c, .bool bids, .int .u8 (q : Int)] w fun e w' => e = .returned (.bool true) ∧ Below w.heap.size w w' := by
  by_cases hx : longC ls = true ∨ n = 0
  · exact sperm_short A n c ls bids q w h hx
  · exact sperm_main A n c ls bids q hq w h (by rw [← Bool.not_eq_true]; exact fun e => hx (Or.inl e)) (fun e => hx (Or.inr e))

end Go.Proofs.YtnjpojpfiijlfaaGreat
