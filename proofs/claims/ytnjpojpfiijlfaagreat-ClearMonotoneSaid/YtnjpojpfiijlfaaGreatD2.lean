/-
The walk of ClearPermutation. No statement of the seat is proved here; no conditions beyond those of each theorem.
-/
import Derived.Test.YtnjpojpfiijlfaaGreatD1
import Derived.Test.YtnjpojpfiijlfaaGreatV4
namespace Go.Proofs.YtnjpojpfiijlfaaGreat
set_option linter.unusedVariables false
set_option linter.unusedSimpArgs false
open Go.RowKit
open Wd

set_option maxRecDepth 100000 in
set_option maxHeartbeats 4000000 in
theorem cperm_short (A B : Option Addr) (n c m d : Nat) (os bs : List (List (Int × Int))) (q r : Nat) (w : World) (h : CsAt w A n os) (h' : CsAt w B m bs) (hx : (longC os || longC bs) = true ∨ ckB os bs ≠ 0) : Calls Tryz.prog 13 #[.slice A n c, .slice B m d, .int .u8 (q : Int), .int .u8 (r : Int)] w fun e w' => e = .returned (.bool true) ∧ Below w.heap.size w w' := by
  have HAW := Lib.hid (fun W => awake25_any W)
  have HL := Lib.hid (long25_any A B n c m d os bs w h h')
  by_cases hlg : (longC os || longC bs) = true
  · rw [hlg] at HL
    clear h h' hx hlg
    go_enter Tryz.func13, Tryz.ntmps13
    go_wp2_with fail
    refine HL.out.mono ?_
    rintro e w1 ⟨rfl, hb1⟩
    have HB1 := Lib.hid hb1
    clear hb1 HL
    go_wp2_with fail
    refine (HAW.out _).mono ?_
    rintro e wz ⟨rfl, hbz⟩
    have HBZ := Lib.hid (HB1.out.trans (hbz.mono HB1.out.size))
    clear hbz
    go_wp2
    go_ret
    exact ⟨rfl, HBZ.out⟩
  · rw [Bool.not_eq_true] at hlg
    have hck : ckB os bs ≠ 0 := by
      rcases hx with hx | hx
      · rw [hx] at hlg; simp at hlg
      · exact hx
    obtain ⟨l1, l2⟩ := Bool.or_eq_false_iff.1 hlg
    have HM := Lib.hid (fun W (hW : Below w.heap.size w W) => may_any A B n c m d os bs W (h.below hW) (h'.below hW) (longC_small l1) (longC_small l2))
    rw [decide_eq_false hck] at HM
    rw [hlg] at HL
    clear h h' hx hlg hck l1 l2
    go_enter Tryz.func13, Tryz.ntmps13
    go_wp2_with fail
    refine HL.out.mono ?_
    rintro e w1 ⟨rfl, hb1⟩
    have HB1 := Lib.hid hb1
    clear hb1 HL
    go_wp2_with fail
    refine (HM.out w1 HB1.out).mono ?_
    rintro e w2 ⟨rfl, hb2⟩
    have HB2 := Lib.hid (HB1.out.trans (hb2.mono HB1.out.size))
    clear hb2 HM HB1
    go_wp2_with fail
    refine (HAW.out _).mono ?_
    rintro e wz ⟨rfl, hbz⟩
    have HBZ := Lib.hid (HB2.out.trans (hbz.mono HB2.out.size))
    clear hbz
    go_wp2
    go_ret
    exact ⟨rfl, HBZ.out⟩

theorem rot_css {w W0 wr : World} {A B9 : Option Addr} {n cb q : Nat} {ls : List (List (Int × Int))} {F : Nat → Option Addr × Nat × Nat} (hl : ls.length = n)
    (hF : ∀ j, j < n → (∃ b o, A = some ⟨b, o, none⟩ ∧ b < w.heap.size ∧ ∀ i, i < n → w.cell? ⟨b, o + i, none⟩ = some (.slice (F i).1 (F i).2.1 (F i).2.2)) ∧ StAt w (F j).1 (F j).2.1 (ls[j]?.getD [])) (hb : Below w.heap.size w wr) (hR : RotR W0 n q F n B9 cb wr) : CsAt wr B9 n (rotL (q % n) ls) := by
  obtain ⟨hRB, hO⟩ := hR
  have hrl : (rotL (q % n) ls).length = n := by rw [← hl]; exact rotL_mod_len q ls
  refine hO.css hrl fun j hj => ?_
  have hr := rotL_get ([] : List (Int × Int)) q j ls (by rw [hl]; exact hj)
  rw [hl] at hr
  rw [hr]
  have := (hF ((j + q) % n) (Nat.mod_lt _ (by omega))).2.below hb
  simpa [hj] using this

set_option maxRecDepth 100000 in
set_option maxHeartbeats 8000000 in
theorem cperm_main (A B : Option Addr) (n c m d : Nat) (os bs : List (List (Int × Int))) (q r : Nat) (w : World) (h : CsAt w A n os) (h' : CsAt w B m bs) (hq : q < 256) (hr : r < 256) (hlg : (longC os || longC bs) = false) (hck : ckB os bs = 0) : Calls Tryz.prog 13 #[.slice A n c, .slice B m d, .int .u8 (q : Int), .int .u8 (r : Int)] w fun e w' => e = .returned (.bool true) ∧ Below w.heap.size w w' := by
  have HAW := Lib.hid (fun W => awake25_any W)
  have HL := Lib.hid (long25_any A B n c m d os bs w h h')
  obtain ⟨l1, l2⟩ := Bool.or_eq_false_iff.1 hlg
  have HM := Lib.hid (fun W (hW : Below w.heap.size w W) => may_any A B n c m d os bs W (h.below hW) (h'.below hW) (longC_small l1) (longC_small l2))
  rw [decide_eq_true hck] at HM
  rw [hlg] at HL
  have hn5 : n ≤ 5 ∧ m ≤ 6 := by have := ckB_iff.1 hck; have := h.1; have := h'.1; omega
  obtain ⟨hn5, hm6⟩ := hn5
  have HLA := Lib.hid h.1
  have HLB := Lib.hid h'.1
  have HX := Lib.hid h
  have HY := Lib.hid h'
  have HCK := Lib.hid hck
  obtain ⟨F, hF⟩ := h.cellsF
  obtain ⟨G, hG⟩ := h'.cellsF
  have HFA := Lib.hid hF
  have HFB := Lib.hid hG
  obtain ⟨ii, hii, hz0, hz1, hz2⟩ := info_parts info_steps
  have HI := Lib.hid hii
  have HZ0 := Lib.hid hz0
  have HZ1 := Lib.hid hz1
  have HZ2 := Lib.hid hz2
  clear h h' hlg hck l1 l2 hF hG hii hz0 hz1 hz2
  go_enter Tryz.func13, Tryz.ntmps13
  go_wp2_with fail
  refine HL.out.mono ?_
  rintro e w1 ⟨rfl, hb1⟩
  have HB1 := Lib.hid hb1
  clear hb1 HL
  go_wp2_with fail
  refine (HM.out w1 HB1.out).mono ?_
  rintro e w2 ⟨rfl, hb2⟩
  have HB2 := Lib.hid (HB1.out.trans (hb2.mono HB1.out.size))
  clear hb2 HM HB1
  go_wp2_with fail
  refine (HAW.out _).mono ?_
  rintro e w3 ⟨rfl, hb3⟩
  have HB3 := Lib.hid (HB2.out.trans (hb3.mono HB2.out.size))
  clear hb3 HB2 HAW
  go_wp2_with fail
  go_loopw [9, 11] (fun tm t wr => ∃ (i : Nat) (B9 : Option Addr) (cb : Nat), i ≤ n ∧ t = .int .i64 i ∧ tm = .slice B9 i cb ∧ Hid (RotR w3 n q F i B9 cb wr)) (fun _ t _ => n - (intOf t).toNat)
  case atStart => exact ⟨0, none, 0, Nat.zero_le _, rfl, rfl, Below.refl _ _, Own.nil _ _ _ _⟩
  case round =>
    obtain ⟨i, B9, cb, hi, rfl, rfl, hR⟩ := hrel
    by_cases hlt : i < n
    · obtain ⟨hRB, hO⟩ := hR.out
      obtain ⟨j, hj, hjn, hjd⟩ : ∃ j : Nat, ((i : Int) + (q : Int)) % (n : Int) = (j : Int) ∧ j < n ∧ j = (i + q) % n := ⟨(i + q) % n, by simp, Nat.mod_lt _ (by omega), rfl⟩
      obtain ⟨⟨b, o, rfl, hb, hF⟩, -⟩ := HFA.out j hjn
      have hcell := (HB3.out.trans (hRB.mono HB3.out.size)).cell (p := ⟨b, o + j, none⟩) hb
      rw [hF j hjn] at hcell
      have hsn : ((List.range (i + 1)).map fun k => F ((k + q) % n)) = ((List.range i).map fun k => F ((k + q) % n)) ++ [F j] := by
        rw [List.range_succ, List.map_append, List.map_cons, List.map_nil, ← hjd]
      generalize (List.range i).map (fun k => F ((k + q) % n)) = vs at *
      have HSN := Lib.hid hsn
      generalize F j = f at *
      obtain ⟨Af, nf, cf⟩ := f
      simp only at hcell
      have i1 : (0 : Int) ≤ (i : Int) := by omega
      have i2 : (i : Int) < (n : Int) := by omega
      have j1 : (0 : Int) ≤ (j : Int) := by omega
      have j2 : (j : Int) < (n : Int) := by omega
      have xw : IntKind.i64.wrap ((i : Int) + (q : Int)) = (i : Int) + (q : Int) := IntWalk.i64_in _ (by omega)
      have hn0' : (n : Int) ≠ 0 := by omega
      have k1 := (Kp.refl wr).alloc (.cells #[.slice Af nf cf] 29)
      have o1 := hO.keep k1
      have m1 := Blk.new wr 29 #[.slice Af nf cf]
      have q1 : Below w3.heap.size w3 (wr.alloc (.cells #[.slice Af nf cf] 29)) := hRB.trans (Below.mono k1 hRB.size)
      clear hsn hR hO hjd hF
      go_wp2_with (first
        | (at_builtin; refine wpList_append_my rfl (base := w3.heap.size) (e := 29) (size := 1) (bytes := 24) (.tmp 37) (.tmp 48) 22 rfl Tryz.underlying22 HI.out HZ0.out HZ1.out HZ2.out rfl (by decide) (xs := vs.map slv) (news := [.slice Af nf cf]) rfl (by exact o1) rfl (by exact Blk.src m1 rfl (slv_one (Af, nf, cf))) (by simp only [maxLen]; omega) (by omega) (by exact q1.size) ?_
           intro B1 cb1 w9 hO1 hb1 hk1))
      go_roundw
      case rel => exact ⟨i + 1, B1, cb1, by omega, by go_num, rfl, q1.trans hb1, by rw [HSN.out, List.map_append]; exact hO1⟩
      case measure => simp [intOf]; omega
    · obtain rfl : i = n := by omega
      have hT := rot_css (q := q) HLA.out HFA.out (HB3.out.trans (hR.out.1.mono HB3.out.size)) hR.out
      obtain ⟨w4, hw4⟩ : ∃ v, v = wr := ⟨_, rfl⟩
      subst hw4
      have HB4 := Lib.hid (HB3.out.trans (hR.out.1.mono HB3.out.size))
      have HCA := Lib.hid hT
      clear hT hR
      obtain ⟨B8, rfl⟩ : ∃ v, v = B9 := ⟨_, rfl⟩
      obtain ⟨cb8, rfl⟩ : ∃ v, v = cb := ⟨_, rfl⟩
      obtain ⟨n, rfl⟩ : ∃ v, v = i := ⟨_, rfl⟩
      go_wp2_with fail
      go_loopw [10, 12] (fun tm t wr => ∃ (i : Nat) (B9 : Option Addr) (cb : Nat), i ≤ m ∧ t = .int .i64 i ∧ tm = .slice B9 i cb ∧ Hid (RotR w4 m r G i B9 cb wr)) (fun _ t _ => m - (intOf t).toNat)
      case atStart => exact ⟨0, none, 0, Nat.zero_le _, rfl, rfl, Below.refl _ _, Own.nil _ _ _ _⟩
      case round =>
        obtain ⟨i, B9, cb, hi, rfl, rfl, hR⟩ := hrel
        by_cases hlt : i < m
        · obtain ⟨hRB, hO⟩ := hR.out
          obtain ⟨j, hj, hjn, hjd⟩ : ∃ j : Nat, ((i : Int) + (r : Int)) % (m : Int) = (j : Int) ∧ j < m ∧ j = (i + r) % m := ⟨(i + r) % m, by simp, Nat.mod_lt _ (by omega), rfl⟩
          obtain ⟨⟨b, o, rfl, hb, hF⟩, -⟩ := HFB.out j hjn
          have hcell := (HB4.out.trans (hRB.mono HB4.out.size)).cell (p := ⟨b, o + j, none⟩) hb
          rw [hF j hjn] at hcell
          have hsn : ((List.range (i + 1)).map fun k => G ((k + r) % m)) = ((List.range i).map fun k => G ((k + r) % m)) ++ [G j] := by
            rw [List.range_succ, List.map_append, List.map_cons, List.map_nil, ← hjd]
          generalize (List.range i).map (fun k => G ((k + r) % m)) = vs at *
          have HSN := Lib.hid hsn
          generalize G j = f at *
          obtain ⟨Af, nf, cf⟩ := f
          simp only at hcell
          have i1 : (0 : Int) ≤ (i : Int) := by omega
          have i2 : (i : Int) < (m : Int) := by omega
          have j1 : (0 : Int) ≤ (j : Int) := by omega
          have j2 : (j : Int) < (m : Int) := by omega
          have xw : IntKind.i64.wrap ((i : Int) + (r : Int)) = (i : Int) + (r : Int) := IntWalk.i64_in _ (by omega)
          have hn0' : (m : Int) ≠ 0 := by omega
          have k1 := (Kp.refl wr).alloc (.cells #[.slice Af nf cf] 29)
          have o1 := hO.keep k1
          have m1 := Blk.new wr 29 #[.slice Af nf cf]
          have q1 : Below w4.heap.size w4 (wr.alloc (.cells #[.slice Af nf cf] 29)) := hRB.trans (Below.mono k1 hRB.size)
          clear hsn hR hO hjd hF
          go_wp2_with (first
            | (at_builtin; refine wpList_append_my rfl (base := w4.heap.size) (e := 29) (size := 1) (bytes := 24) (.tmp 56) (.tmp 67) 22 rfl Tryz.underlying22 HI.out HZ0.out HZ1.out HZ2.out rfl (by decide) (xs := vs.map slv) (news := [.slice Af nf cf]) rfl (by exact o1) rfl (by exact Blk.src m1 rfl (slv_one (Af, nf, cf))) (by simp only [maxLen]; omega) (by omega) (by exact q1.size) ?_
               intro B1 cb1 w9 hO1 hb1 hk1))
          go_roundw
          case rel => exact ⟨i + 1, B1, cb1, by omega, by go_num, rfl, q1.trans hb1, by rw [HSN.out, List.map_append]; exact hO1⟩
          case measure => simp [intOf]; omega
        · obtain rfl : i = m := by omega
          have hT := rot_css (q := r) HLB.out HFB.out (HB4.out.trans (hR.out.1.mono HB4.out.size)) hR.out
          have HB5 := Lib.hid (HB4.out.trans (hR.out.1.mono HB4.out.size))
          have HCA := Lib.hid (HCA.out.below hR.out.1)
          have HCB := Lib.hid hT
          have HRA := Lib.hid (run_ok A B n c i d os bs wr (HX.out.below HB5.out) (HY.out.below HB5.out) HCK.out)
          have HRB := Lib.hid (fun W (hW : Below wr.heap.size wr W) => run_ok B8 B9 n cb8 i cb (rotL (q % n) os) (rotL (r % i) bs) W (HCA.out.below hW) (HCB.out.below hW) (by have := ckB_rot q r HCK.out; rw [HLA.out, HLB.out] at this; exact this))
          clear hT hR
          go_wp2_with fail
          refine HRA.out.mono ?_
          rintro e u1 ⟨z, p, wf, xs, ys, S, D, g1, g2, rfl, hv1, -, -, -, -, hb1⟩
          have HV1 := Lib.hid hv1
          have hbx := Blk.new u1 92 #[.int .i64 z, .int .i64 p, .int .i64 wf, .slice (some ⟨g1, 0, none⟩) os.length os.length, .slice (some ⟨g2, 0, none⟩) bs.length bs.length]
          have kx := (Kp.refl u1).alloc (.cells #[.int .i64 z, .int .i64 p, .int .i64 wf, .slice (some ⟨g1, 0, none⟩) os.length os.length, .slice (some ⟨g2, 0, none⟩) bs.length bs.length] 92)
          have HU1 := Lib.hid (hb1.trans (Below.mono kx hb1.size))
          clear hv1 hb1 kx HRA
          go_wp2_with fail
          have HBX := Lib.hid hbx
          clear hbx
          generalize hWe : u1.alloc (.cells #[.int .i64 z, .int .i64 p, .int .i64 wf, .slice (some ⟨g1, 0, none⟩) os.length os.length, .slice (some ⟨g2, 0, none⟩) bs.length bs.length] 92) = U1 at *
          clear hWe
          refine (HRB.out U1 HU1.out).mono ?_
          rintro e u2 ⟨z', p', wf', xs', ys', S', D', g3, g4, rfl, hv2, -, -, -, -, hb2⟩
          have hv2' : RunV (rotL (q % os.length) os) (rotL (r % bs.length) bs) z' p' wf' xs' ys' S' D' := by rw [HLA.out, HLB.out]; exact hv2
          obtain ⟨rfl, rfl, rfl⟩ := run_rot HV1.out hv2'
          have hbx2 := HBX.out.below hb2 HBX.out.lt
          generalize (rotL (q % n) os).length = no at *
          generalize (rotL (r % i) bs).length = nb at *
          have kx := (Kp.refl u2).alloc (.cells #[.int .i64 z, .int .i64 p, .int .i64 wf, .slice (some ⟨g3, 0, none⟩) no no, .slice (some ⟨g4, 0, none⟩) nb nb] 92)
          have hbx3 := kx.blk hbx2
          obtain ⟨⟨c0, c1, c2, -, -⟩, -⟩ := hbx3.five
          have hU2 := HU1.out.trans (hb2.mono HU1.out.size)
          have hU3 := hU2.trans (Below.mono kx hU2.size)
          have HEND := Lib.hid (HB5.out.trans (hU3.mono HB5.out.size))
          clear hv2 hv2' hb2 hbx2 kx hbx3 hU2 hU3 HRB HBX HV1
          go_wp2
          go_ret
          exact ⟨by simp, HEND.out⟩

theorem cperm_any (A B : Option Addr) (n c m d : Nat) (os bs : List (List (Int × Int))) (q r : Nat) (w : World) (h : CsAt w A n os) (h' : CsAt w B m bs) (hq : q < 256) (hr : r < 256) : Calls Tryz.prog 13 #[.slice A n c, .slice B m d, .int .u8 (q : Int), .int .u8 (r : Int)] w fun e w' => e = .returned (.bool true) ∧ Below w.heap.size w w' := by
  by_cases hx : (longC os || longC bs) = true ∨ ckB os bs ≠ 0
  · exact cperm_short A B n c m d os bs q r w h h' hx
  · exact cperm_main A B n c m d os bs q r w h h' hq hr (by rw [← Bool.not_eq_true]; exact fun e => hx (Or.inl e)) (Classical.not_not.1 fun e => hx (Or.inr e))

end Go.Proofs.YtnjpojpfiijlfaaGreat
