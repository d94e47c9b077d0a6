/-
The walk of ClearOptimality. No statement of the seat is proved here; no conditions beyond those of each theorem.
-/
import Derived.Test.YtjajigkacccdgaaGreatTcBG
import Derived.Test.YtjajigkacccdgaaGreatTcBU
import Derived.Test.YtjajigkacccdgaaGreatTcBV
import Derived.Test.YtjajigkacccdgaaGreatTcBW
import Derived.Test.YtjajigkacccdgaaGreatTcBX
namespace Go.Proofs.YtjajigkacccdgaaGreat
set_option linter.unusedVariables false
set_option linter.unusedSimpArgs false
open Go.RowKit
open Wd

theorem goodA_aT {ls : List (List (Int × Int))} {gs : List Rat} (h : goodA ls gs) : ∀ i, i < ls.length → 0 ≤ gs[i]?.getD 0 ∧ gs[i]?.getD 0 ≤ ((aT (ls[i]?.getD []) : Int) : Rat) := fun i hi => by
 rw [← qsum_aT]
 exact h i hi
theorem wfE_zero {os bs : List (List (Int × Int))} {gs ts : List Rat} (h : wfE os bs gs ts = 0) : ckB os bs = 0 ∧ gs.length = os.length ∧ ts.length = bs.length ∧ goodA os gs ∧ goodA bs ts ∧ qtyA gs os.length = qtyA ts bs.length := by
 unfold wfE at h
 by_cases c1 : ckB os bs = 0
 ·rw [if_neg (by simpa using c1)] at h
  by_cases c2 : gs.length ≠ os.length ∨ ts.length ≠ bs.length
  ·rw [if_pos c2] at h; simp at h
  ·rw [if_neg c2] at h
   by_cases c3 : ¬ goodA os gs ∨ ¬ goodA bs ts
   ·rw [if_pos c3] at h; simp at h
   ·rw [if_neg c3] at h
    by_cases c4 : qtyA gs os.length = qtyA ts bs.length
    ·have e1 : goodA os gs := Classical.byContradiction fun hh => c3 (Or.inl hh)
     have e2 : goodA bs ts := Classical.byContradiction fun hh => c3 (Or.inr hh)
     exact ⟨c1, by omega, by omega, e1, e2, c4⟩
    ·rw [if_pos c4] at h; simp at h
 ·rw [if_pos c1] at h
  exact absurd h c1
theorem sign_zero (W : World) : Calls Tryz.prog 57 #[.agg #[.bool false, .slice none 0 0, .bool false, .slice none 0 0]] W fun e w' => e = .returned (.int .i64 0) ∧ Below W.heap.size W w' := by
 have h0 : RQ W 0 none 0 0 none 0 0 := (CQ.zero (base := 0) (w := W)).wq
 have := sign_s (h0.qs (ls_zero 1 (by decide)) (by decide))
 exact this

set_option maxRecDepth 100000 in
set_option maxHeartbeats 4000000 in
theorem copt25_short (A B G H : Option Addr) (n c m d gn gc hn hc : Nat) (os bs : List (List (Int × Int))) (eg et : List QE) (w : World) (h : CsAt w A n os) (h' : CsAt w B m bs) (hg : GRaw w G gn eg) (ht : GRaw w H hn et) (hx : (longC os || longC bs) = true ∨ eg.any bigQ = true ∨ et.any bigQ = true ∨ 30 < gn ∨ 30 < hn) : Calls Tryz.prog 9 #[.slice A n c, .slice B m d, .slice G gn gc, .slice H hn hc] w fun e w' => e = .returned (.bool true) ∧ Below w.heap.size w w' := by
 have HAW := Lib.hid (fun W => awake25_any W)
 have HL := Lib.hid (long25_any A B n c m d os bs w h h')
 have HG2 := Lib.hid (fun W (hW : Below w.heap.size w W) => long23_big G gn gc eg W (hg.1.below hW) hg.2.2)
 have HG3 := Lib.hid (fun W (hW : Below w.heap.size w W) => long23_big H hn hc et W (ht.1.below hW) ht.2.2)
 by_cases x1 : (longC os || longC bs) = true
 ·rw [x1] at HL
  clear h h' hg ht hx x1 HG2 HG3
  go_enter Tryz.func9, Tryz.ntmps9
  go_wp2_with fail
  refine HL.out.mono ?_
  rintro e w1 ⟨rfl, hb1⟩
  have HB1 := Lib.hid hb1
  clear hb1 HL
  go_wp2_with fail
  refine (HAW.out _).mono ?_
  rintro e wz ⟨rfl, hbz⟩
  have HBZ := Lib.hid (HB1.out.trans (hbz.mono HB1.out.size))
  clear hbz
  go_wp2
  go_ret
  exact ⟨rfl, HBZ.out⟩
 ·rw [Bool.not_eq_true] at x1
  rw [x1] at HL
  by_cases x2 : eg.any bigQ = true
  ·rw [x2] at HG2
   clear h h' hg ht hx x1 x2 HG3
   go_enter Tryz.func9, Tryz.ntmps9
   go_wp2_with fail
   refine HL.out.mono ?_
   rintro e w1 ⟨rfl, hb1⟩
   have HB1 := Lib.hid hb1
   clear hb1 HL
   go_wp2_with fail
   refine (HG2.out w1 HB1.out).mono ?_
   rintro e w2 ⟨rfl, hb2⟩
   have HB2 := Lib.hid (HB1.out.trans (hb2.mono HB1.out.size))
   clear hb2 HB1 HG2
   go_wp2_with fail
   refine (HAW.out _).mono ?_
   rintro e wz ⟨rfl, hbz⟩
   have HBZ := Lib.hid (HB2.out.trans (hbz.mono HB2.out.size))
   clear hbz
   go_wp2
   go_ret
   exact ⟨rfl, HBZ.out⟩
  ·rw [Bool.not_eq_true] at x2
   rw [x2] at HG2
   by_cases x3 : et.any bigQ = true
   ·rw [x3] at HG3
    clear h h' hg ht hx x1 x2 x3
    go_enter Tryz.func9, Tryz.ntmps9
    go_wp2_with fail
    refine HL.out.mono ?_
    rintro e w1 ⟨rfl, hb1⟩
    have HB1 := Lib.hid hb1
    clear hb1 HL
    go_wp2_with fail
    refine (HG2.out w1 HB1.out).mono ?_
    rintro e w2 ⟨rfl, hb2⟩
    have HB2 := Lib.hid (HB1.out.trans (hb2.mono HB1.out.size))
    clear hb2 HB1 HG2
    go_wp2_with fail
    refine (HG3.out w2 HB2.out).mono ?_
    rintro e w3 ⟨rfl, hb3⟩
    have HB3 := Lib.hid (HB2.out.trans (hb3.mono HB2.out.size))
    clear hb3 HB2 HG3
    go_wp2_with fail
    refine (HAW.out _).mono ?_
    rintro e wz ⟨rfl, hbz⟩
    have HBZ := Lib.hid (HB3.out.trans (hbz.mono HB3.out.size))
    clear hbz
    go_wp2
    go_ret
    exact ⟨rfl, HBZ.out⟩
   ·rw [Bool.not_eq_true] at x3
    rw [x3] at HG3
    by_cases x4 : 30 < gn
    ·have d4 : decide ((30 : Int) < (gn : Int)) = true := by simp; omega
     clear h h' hg ht hx x1 x2 x3 x4
     go_enter Tryz.func9, Tryz.ntmps9
     go_wp2_with fail
     refine HL.out.mono ?_
     rintro e w1 ⟨rfl, hb1⟩
     have HB1 := Lib.hid hb1
     clear hb1 HL
     go_wp2_with fail
     refine (HG2.out w1 HB1.out).mono ?_
     rintro e w2 ⟨rfl, hb2⟩
     have HB2 := Lib.hid (HB1.out.trans (hb2.mono HB1.out.size))
     clear hb2 HB1 HG2
     go_wp2_with fail
     refine (HG3.out w2 HB2.out).mono ?_
     rintro e w3 ⟨rfl, hb3⟩
     have HB3 := Lib.hid (HB2.out.trans (hb3.mono HB2.out.size))
     clear hb3 HB2 HG3
     go_wp2_with fail
     refine (HAW.out _).mono ?_
     rintro e wz ⟨rfl, hbz⟩
     have HBZ := Lib.hid (HB3.out.trans (hbz.mono HB3.out.size))
     clear hbz
     go_wp2
     go_ret
     exact ⟨rfl, HBZ.out⟩
    ·have d4 : decide ((30 : Int) < (gn : Int)) = false := by simp; omega
     have d5 : decide ((30 : Int) < (hn : Int)) = true := by
      rcases hx with hx | hx | hx | hx | hx
      ·rw [x1] at hx; simp at hx
      ·rw [x2] at hx; simp at hx
      ·rw [x3] at hx; simp at hx
      ·exact absurd hx x4
      ·simp; omega
     clear h h' hg ht hx x1 x2 x3 x4
     go_enter Tryz.func9, Tryz.ntmps9
     go_wp2_with fail
     refine HL.out.mono ?_
     rintro e w1 ⟨rfl, hb1⟩
     have HB1 := Lib.hid hb1
     clear hb1 HL
     go_wp2_with fail
     refine (HG2.out w1 HB1.out).mono ?_
     rintro e w2 ⟨rfl, hb2⟩
     have HB2 := Lib.hid (HB1.out.trans (hb2.mono HB1.out.size))
     clear hb2 HB1 HG2
     go_wp2_with fail
     refine (HG3.out w2 HB2.out).mono ?_
     rintro e w3 ⟨rfl, hb3⟩
     have HB3 := Lib.hid (HB2.out.trans (hb3.mono HB2.out.size))
     clear hb3 HB2 HG3
     go_wp2_with fail
     refine (HAW.out _).mono ?_
     rintro e wz ⟨rfl, hbz⟩
     have HBZ := Lib.hid (HB3.out.trans (hbz.mono HB3.out.size))
     clear hbz
     go_wp2
     go_ret
     exact ⟨rfl, HBZ.out⟩

theorem wfV_ls {os bs : List (List (Int × Int))} {gs ts : List Rat} (hck : ckB os bs = 0) (hx : goodA os gs) (hy : goodA bs ts) (hlg : ∀ j, j < os.length → Ls 7 (gs[j]?.getD 0)) (hlt : ∀ j, j < bs.length → Ls 7 (ts[j]?.getD 0)) : Ls 200000 (wfV os bs gs ts) := by
 obtain ⟨l1, l2, k3, k4⟩ := ckB_iff.1 hck
 have m1 : Ls 50000 (moneyA os gs os.length) := (moneyA_ls (s := 7) (by decide) (fun j hj => curve_good (k3 _ (getD_mem (d := []) (by omega)))) (fun j hj => (hx j (by omega)).1) hlg _ (Nat.le_refl _)).mono (by omega)
 have m2 : Ls 50000 (moneyA bs ts bs.length) := (moneyA_ls (s := 7) (by decide) (fun j hj => curve_good (k4 _ (getD_mem (d := []) (by omega)))) (fun j hj => (hy j (by omega)).1) hlt _ (Nat.le_refl _)).mono (by omega)
 exact (m2.sub m1).mono (by decide)
theorem RunV.bds {os bs : List (List (Int × Int))} {z p wf : Int} {xs ys : List Int} {S D : List St.Lv} (hck : ckB os bs = 0) (h : RunV os bs z p wf xs ys S D) : (∀ i, i < os.length → 0 ≤ xs[i]?.getD 0 ∧ xs[i]?.getD 0 ≤ 3000000) ∧ (∀ i, i < bs.length → 0 ≤ ys[i]?.getD 0 ∧ ys[i]?.getD 0 ≤ 3000000) ∧ wf.natAbs < 1000000000000000 := by
 obtain ⟨l5, l6, k3, k4⟩ := ckB_iff.1 hck
 obtain ⟨sd1, sd2⟩ := h.sides hck
 have q3 : ∀ {up : Bool} {l : List (Int × Int)}, chk up l = 0 → qsum l ≤ 3000000 := fun {up l} hl => by
  obtain ⟨_, j1, j2⟩ := curve_ok (curve_good hl)
  have := qsum_bd l j2
  omega
 have hxb : ∀ i, i < os.length → 0 ≤ xs[i]?.getD 0 ∧ xs[i]?.getD 0 ≤ qsum (os[i]?.getD []) := fun i hi => by
  rw [qsum_aT]
  exact sd1.bd (Pos.of k3) hi
 have hyb : ∀ i, i < bs.length → 0 ≤ ys[i]?.getD 0 ∧ ys[i]?.getD 0 ≤ qsum (bs[i]?.getD []) := fun i hi => by
  have := sd2.bd (Pos.of k4).neg (i := i) (by rw [negs_len]; exact hi)
  rw [negs_get, aT_negL] at this
  rw [qsum_aT]
  exact this
 have c1 := costs_bd k3 (xs := xs) hxb os.length (Nat.le_refl _)
 have c2 := costs_bd k4 (xs := ys) hyb bs.length (Nat.le_refl _)
 have htr := h.trade hck
 refine ⟨fun i hi => ⟨(hxb i hi).1, Int.le_trans (hxb i hi).2 (q3 (k3 _ (getD_mem (d := []) hi)))⟩, fun i hi => ⟨(hyb i hi).1, Int.le_trans (hyb i hi).2 (q3 (k4 _ (getD_mem (d := []) hi)))⟩, by omega⟩
theorem wfV_as (os bs : List (List (Int × Int))) (gs ts : List Rat) : wfV os bs gs ts = sumF (fun i => costAt (bs[i]?.getD []) (ts[i]?.getD 0) (bs[i]?.getD []).length) bs.length - sumF (fun i => costAt (os[i]?.getD []) (gs[i]?.getD 0) (os[i]?.getD []).length) os.length := rfl

set_option maxRecDepth 100000 in
set_option maxHeartbeats 16000000 in
theorem copt25_yes (A B G H : Option Addr) (n c m d gn gc hn hc : Nat) (os bs : List (List (Int × Int))) (eg et : List QE) (w : World) (h : CsAt w A n os) (h' : CsAt w B m bs) (hg : GRaw w G gn eg) (ht : GRaw w H hn et) (x1 : (longC os || longC bs) = false) (x2 : eg.any bigQ = false) (x3 : et.any bigQ = false) (x4 : gn ≤ 30) (x5 : hn ≤ 30) : Calls Tryz.prog 9 #[.slice A n c, .slice B m d, .slice G gn gc, .slice H hn hc] w fun e w' => e = .returned (.bool true) ∧ Below w.heap.size w w' := by
 have HAW := Lib.hid (fun W => awake25_any W)
 have HL := Lib.hid (long25_any A B n c m d os bs w h h')
 have HG2 := Lib.hid (fun W (hW : Below w.heap.size w W) => long23_big G gn gc eg W (hg.1.below hW) hg.2.2)
 have HG3 := Lib.hid (fun W (hW : Below w.heap.size w W) => long23_big H hn hc et W (ht.1.below hW) ht.2.2)
 obtain ⟨gs, hgs⟩ := hg.qs x2
 obtain ⟨ts, hts⟩ := ht.qs x3
 obtain ⟨l1, l2⟩ : longC os = false ∧ longC bs = false := by simpa using x1
 have hs := longC_small l1
 have hr := longC_small l2
 have HWF := Lib.hid (fun W (hW : Below w.heap.size w W) => welfare_any A B G H n c m d gn gc hn hc os bs gs ts W (h.below hW) (h'.below hW) (hgs.below hW) (hts.below hW) hs hr)
 have HRA := Lib.hid (fun (hck : ckB os bs = 0) W (hW : Below w.heap.size w W) => run_ok A B n c m d os bs W (h.below hW) (h'.below hW) hck)
 have d4 : decide ((30 : Int) < (gn : Int)) = false := by simp; omega
 have d5 : decide ((30 : Int) < (hn : Int)) = false := by simp; omega
 rw [x1] at HL
 rw [x2] at HG2
 rw [x3] at HG3
 have HQG := Lib.hid hgs
 have HQH := Lib.hid hts
 have HLA := Lib.hid h.1
 have HLB := Lib.hid h'.1
 clear h h' hg ht x1 x2 x3 hs hr l1 l2 hgs hts
 go_enter Tryz.func9, Tryz.ntmps9
 go_wp2_with fail
 refine HL.out.mono ?_
 rintro e w1 ⟨rfl, hb1⟩
 have HB1 := Lib.hid hb1
 clear hb1 HL
 go_wp2_with fail
 refine (HG2.out w1 HB1.out).mono ?_
 rintro e w2 ⟨rfl, hb2⟩
 have HB2 := Lib.hid (HB1.out.trans (hb2.mono HB1.out.size))
 clear hb2 HB1 HG2
 go_wp2_with fail
 refine (HG3.out w2 HB2.out).mono ?_
 rintro e w3 ⟨rfl, hb3⟩
 have HB3 := Lib.hid (HB2.out.trans (hb3.mono HB2.out.size))
 clear hb3 HB2 HG3
 go_wp2_with fail
 refine (HAW.out _).mono ?_
 rintro e w4 ⟨rfl, hb4⟩
 have HB4 := Lib.hid (HB3.out.trans (hb4.mono HB3.out.size))
 clear hb4 HB3 HAW
 go_wp2_with fail
 refine (HWF.out w4 HB4.out).mono ?_
 rintro e w5 (⟨hz, A1, j1, c1, A2, j2, c2, rfl, hcq, hb5⟩ | ⟨hz, rfl, hb5⟩)
 ·obtain ⟨hck, e1, e2, gd, gd', hbal⟩ := wfE_zero hz
  obtain rfl : gn = n := by have h1 := HQG.out.1; have h2 := HLA.out; omega
  obtain rfl : hn = m := by have h1 := HQH.out.1; have h2 := HLB.out; omega
  have hlg : ∀ j, j < os.length → Ls 7 (gs[j]?.getD 0) := by
   obtain ⟨es, _, hw⟩ := HQG.out.raw
   exact fun j hj => (hw j (by have := HLA.out; omega)).ls
  have hlt : ∀ j, j < bs.length → Ls 7 (ts[j]?.getD 0) := by
   obtain ⟨es, _, hw⟩ := HQH.out.raw
   exact fun j hj => (hw j (by have := HLB.out; omega)).ls
  have HVL := Lib.hid (wfV_ls hck gd gd' hlg hlt)
  have HOP := Lib.hid (fun (z p wf : Int) (xs ys : List Int) (S D : List St.Lv) (hv : RunV os bs z p wf xs ys S D) => clear_opt hck hv (g := fun i => gs[i]?.getD 0) (t := fun i => ts[i]?.getD 0) (goodA_aT gd) (goodA_aT gd') rfl hbal.symm (wfV_as os bs gs ts))
  have HBD := Lib.hid (fun (z p wf : Int) (xs ys : List Int) (S D : List St.Lv) (hv : RunV os bs z p wf xs ys S D) => hv.bds hck)
  generalize wfV os bs gs ts = v at *
  have b9 := Blk.new w5 42 #[.bool (decide ((v).num < 0)), .slice A1 j1 c1, .bool false, .slice A2 j2 c2]
  have k9 := (Kp.refl w5).alloc (.cells #[.bool (decide ((v).num < 0)), .slice A1 j1 c1, .bool false, .slice A2 j2 c2] 42)
  have HW5 := Lib.hid ((HB4.out.trans (hb5.mono HB4.out.size)).trans (Below.mono k9 (HB4.out.trans (hb5.mono HB4.out.size)).size))
  have HB9 := Lib.hid (And.intro b9 (show RQ (w5.alloc (.cells #[.bool (decide ((v).num < 0)), .slice A1 j1 c1, .bool false, .slice A2 j2 c2] 42)) v A1 j1 c1 A2 j2 c2 from WQ.below hcq.wq k9))
  have T5 := Lib.hid (HRA.out hck _ HW5.out)
  clear hcq hb5 k9 b9 hz e1 e2 gd gd' hbal hck hlg hlt HB4 HRA HWF
  go_wp2_with fail
  generalize w5.alloc (.cells #[.bool (decide ((v).num < 0)), .slice A1 j1 c1, .bool false, .slice A2 j2 c2] 42) = W5 at *
  generalize w5.heap.size = g9 at *
  refine T5.out.mono ?_
  rintro e u1 ⟨z, p, wf, xs, ys, S, D, g1, g2, rfl, hv, hi1, hi2, -, -, hb1⟩
  rw [HLA.out, HLB.out]
  have hop := HOP.out _ _ _ _ _ _ _ hv
  have hbd := HBD.out _ _ _ _ _ _ _ hv
  have hlx : xs.length = gn := by rw [hv.x, shAll_len]; exact HLA.out
  have hly : ys.length = hn := by rw [hv.y, shAll_len]; exact HLB.out
  rw [HLA.out, HLB.out] at hop hbd
  have HXB := Lib.hid hbd.1
  have HYB := Lib.hid hbd.2.1
  have hwfb := hbd.2.2
  have HLX := Lib.hid hlx
  have HLY := Lib.hid hly
  have HOPT := Lib.hid hop
  have bx := Blk.new u1 81 #[.int .i64 z, .int .i64 p, .int .i64 wf, .slice (some ⟨g1, 0, none⟩) gn gn, .slice (some ⟨g2, 0, none⟩) hn hn]
  have kx := (Kp.refl u1).alloc (.cells #[.int .i64 z, .int .i64 p, .int .i64 wf, .slice (some ⟨g1, 0, none⟩) gn gn, .slice (some ⟨g2, 0, none⟩) hn hn] 81)
  have HV := Lib.hid (HW5.out.trans ((hb1.trans (Below.mono kx hb1.size)).mono HW5.out.size))
  have HBO := Lib.hid bx
  have HBW := Lib.hid (And.intro ((HB9.out.1.below hb1 HB9.out.1.lt).below kx (HB9.out.1.below hb1 HB9.out.1.lt).lt) (RQ.below (RQ.below HB9.out.2 hb1) kx))
  have HI1 := Lib.hid (hi1.below kx)
  have HI2 := Lib.hid (hi2.below kx)
  obtain ⟨⟨f0, f1, f2, f3, f4⟩, -⟩ := bx.five
  have n1 : ((gn : Int) != (gn : Int)) = false := by simp
  have n2 : ((hn : Int) != (hn : Int)) = false := by simp
  clear hop hbd hlx hly bx kx hb1 hi1 hi2 hv HOP HBD HB9 HW5 T5
  go_wp2_with fail
  generalize u1.alloc (.cells #[.int .i64 z, .int .i64 p, .int .i64 wf, .slice (some ⟨g1, 0, none⟩) gn gn, .slice (some ⟨g2, 0, none⟩) hn hn] 81) = V at *
  generalize u1.heap.size = gx at *
  have TF := Lib.hid (fun W => qfromInt64_any wf W (by omega) (by omega))
  have hl3 : Ls 200000 ((wf : Int) : Rat) := (ls_int (Nat.le_refl 3) (by omega)).mono (by decide)
  have TC := Lib.hid (fun (W : World) (hW : Kp V W) (N : Option Addr) (n o : Nat) (M : Option Addr) (p s : Nat) (hh : RQ W (wf : Rat) N n o M p s) => cmp_s (s := 200000) ((RQ.below HBW.out.2 hW).qs HVL.out (by decide)) (hh.qs hl3 (by decide)))
  clear hl3 f0 f1 f2 f3 f4
  have HS := Lib.hid (show ∀ w', Kp V w' → (w'.cell? ⟨g9, 0, none⟩ = some (.bool (decide (v.num < 0))) ∧ w'.cell? ⟨g9, 1, none⟩ = some (.slice A1 j1 c1) ∧ w'.cell? ⟨g9, 2, none⟩ = some (.bool false) ∧ w'.cell? ⟨g9, 3, none⟩ = some (.slice A2 j2 c2) ∧ w'.cell? ⟨gx, 2, none⟩ = some (.int .i64 wf)) ∧ Kp V w' from fun w' hk => ⟨⟨(Kp.blk hk HBW.out.1).cell 0, (Kp.blk hk HBW.out.1).cell 1, (Kp.blk hk HBW.out.1).cell 2, (Kp.blk hk HBW.out.1).cell 3, (Kp.blk hk HBO.out).cell 2⟩, hk⟩)
  refine wp_region_held_drew (S := fun w' => (w'.cell? ⟨g9, 0, none⟩ = some (.bool (decide (v.num < 0))) ∧ w'.cell? ⟨g9, 1, none⟩ = some (.slice A1 j1 c1) ∧ w'.cell? ⟨g9, 2, none⟩ = some (.bool false) ∧ w'.cell? ⟨g9, 3, none⟩ = some (.slice A2 j2 c2) ∧ w'.cell? ⟨gx, 2, none⟩ = some (.int .i64 wf)) ∧ Kp V w') (by kernel_rfl) (HS.out _ (Kp.drew (Kp.refl V))) (fun hHeld => ?_)
  refine' tkk 0 rfl (by kernel_rfl) (fun _ _ _ h => h) (.inl ⟨by rfl, ?_⟩) (by assumption) ?_; rotate_left
  ·(intro w hSw; (try dsimp only at hSw); (try simp only [p1, p2, p3]); go_simp; first | done | with_reducible rfl)
  (try simp only [Act.put, p1, p2, p3, p4, p5, p6])
  refine' tkk 1 rfl (by kernel_rfl) (fun _ _ _ h => h) (.inl ⟨by rfl, ?_⟩) (by assumption) ?_; rotate_left
  ·(intro w hSw; (try dsimp only at hSw); (try simp only [p1, p2, p3]); go_simp; first | done | with_reducible rfl)
  (try simp only [Act.put, p1, p2, p3, p4, p5, p6])
  refine' tkk 2 rfl (by kernel_rfl) (fun _ _ _ h => h) (.inl ⟨by rfl, ?_⟩) (by assumption) ?_; rotate_left
  ·(intro w hSw; (try dsimp only at hSw); (try simp only [p1, p2, p3]); go_simp; first | done | with_reducible rfl)
  (try simp only [Act.put, p1, p2, p3, p4, p5, p6])
  refine wpAnyH_ready (rs := [3]) (by kernel_rfl) (by simp) ?_
  refine AllReadyH.cons rfl (fun K hK => ?_) AllReadyH.nil
  (try simp only [p1, p2, p3])
  go_simp
  have hk := And.right ‹_ ∧ Kp V _›
  refine (TF.out _).mono ?_
  rintro e x3 ⟨N3, n3, o3, M3, p3, s3, rfl, hk1, hk2, hW1, hW2, -, -, hbx⟩
  have hp : Kp V x3 := Kp.trans hk hbx
  have h3r := (show RQ x3 (wf : Rat) N3 n3 o3 M3 p3 s3 from ⟨hk1, hk2, hW1, hW2⟩)
  clear hk hbx hk1 hk2 hW1 hW2
  (try (go_wp2_with fail))
  refine hK.out _ _ ?k5 (fun hHeld5 => ?n5)
  case k5 => ((try dsimp only); first | (with_reducible refine HS.out _ ?_; with_reducible assumption) | (with_reducible refine HS.out _ (Kp.drew ?_); with_reducible assumption) | (with_reducible refine' HS.out _ (Kp.drew (And.right ?_)); rotate_left; with_reducible assumption))
  clear hK K
  (try simp only [Act.put, p1, p2, p3, p4, p5, p6])
  refine wpAnyH_ready (rs := [4]) (by kernel_rfl) (by simp) ?_
  refine AllReadyH.cons rfl (fun K hK => ?_) AllReadyH.nil
  (try simp only [p1, p2, p3])
  go_simp
  have hk := And.right ‹_ ∧ Kp V _›
  refine (TC.out _ hk _ _ _ _ _ _ h3r).mono ?_
  rintro e x4 ⟨rfl, hbx⟩
  have hp : Kp V x4 := Kp.trans hk hbx
  clear hk hbx h3r
  (try (go_wp2_with fail))
  refine hK.out _ _ ?k6 (fun hHeld6 => ?n6)
  case k6 => ((try dsimp only); first | (with_reducible refine HS.out _ ?_; with_reducible assumption) | (with_reducible refine HS.out _ (Kp.drew ?_); with_reducible assumption) | (with_reducible refine' HS.out _ (Kp.drew (And.right ?_)); rotate_left; with_reducible assumption))
  clear hK K
  (try simp only [Act.put, p1, p2, p3, p4, p5, p6])
  refine' tkk 5 rfl (by kernel_rfl) (fun _ _ _ h => h) (.inl ⟨by rfl, ?_⟩) (by assumption) ?_; rotate_left
  ·(intro w hSw; (try dsimp only at hSw); (try simp only [p1, p2, p3]); go_simp; first | done | with_reducible rfl)
  (try simp only [Act.put, p1, p2, p3, p4, p5, p6])
  refine wpAnyH_done (by kernel_rfl) ?_ _
  (try clear hHeld1)
  (try clear hHeld2)
  (try clear hHeld3)
  (try clear hHeld4)
  (try clear hHeld5)
  (try clear hHeld6)
  (try clear hHeld7)
  (try clear hHeld8)
  (try clear hHeld9)
  (try clear hHeld10)
  (try clear hHeld11)
  (try clear hHeld12)
  (try clear hHeld13)
  (try clear hHeld14)
  (try clear hHeld15)
  (try clear hHeld16)
  (try clear hHeld17)
  (try clear hHeld18)
  (try clear hHeld19)
  (try clear hHeld20)
  (try clear hHeld21)
  (try clear hHeld22)
  (try clear hHeld23)
  (try clear hHeld24)
  (try clear hHeld25)
  (try clear hHeld26)
  (try clear hHeld27)
  (try clear hHeld28)
  (try clear hHeld29)
  (try clear hHeld30)
  (try clear hHeld31)
  (try clear hHeld32)
  (try clear hHeld33)
  (try clear hHeld34)
  (try clear hHeld35)
  (try clear hHeld36)
  (try clear hHeld37)
  (try clear hHeld38)
  (try clear hHeld39)
  (try clear hHeld40)
  (try clear hHeld41)
  (try clear hHeld42)
  (try clear hHeld43)
  (try clear hHeld44)
  (try clear hHeld45)
  (try clear hHeld46)
  (try clear hHeld47)
  (try clear hHeld48)
  (try clear hHeld49)
  (try clear hHeld50)
  (try clear hHeld51)
  (try clear hHeld52)
  (try clear hHeld53)
  (try clear hHeld54)
  (try clear hHeld55)
  (try clear hHeld56)
  (try clear hHeld57)
  (try clear hHeld58)
  (try clear hHeld59)
  (try clear hHeld60)
  (try clear hHeld61)
  (try clear hHeld62)
  (try clear hHeld63)
  (try clear hHeld64)
  (try clear hHeld65)
  (try clear hHeld66)
  (try clear hHeld67)
  (try clear hHeld68)
  (try clear hHeld69)
  (try clear hHeld70)
  (try clear hHeld71)
  (try clear hHeld72)
  (try clear hHeld73)
  (try clear hHeld74)
  (try clear hHeld75)
  (try clear hHeld76)
  (try clear hHeld77)
  (try clear hHeld78)
  (try clear hHeld79)
  (try clear hHeld80)
  (try clear hHeld81)
  (try clear hHeld82)
  (try clear hHeld83)
  (try clear hHeld84)
  (try clear hHeld85)
  (try clear hHeld86)
  (try clear hHeld87)
  (try clear hHeld88)
  (try clear hHeld89)
  (try clear hHeld90)
  (try clear hHeld91)
  (try clear hHeld92)
  (try clear hHeld93)
  (try clear hHeld94)
  (try clear hHeld95)
  (try clear hHeld96)
  (try clear hHeld97)
  (try clear hHeld98)
  (try clear hHeld99)
  (try clear hHeld100)
  (try clear hHeld101)
  (try clear hHeld102)
  (try clear hHeld103)
  (try clear hHeld104)
  (try clear hHeld105)
  (try clear hHeld106)
  (try clear hHeld107)
  (try clear hHeld108)
  (try clear hHeld109)
  (try clear hHeld110)
  (try clear hHeld111)
  (try clear hHeld112)
  (try clear hHeld113)
  (try clear hHeld114)
  (try clear hHeld115)
  (try clear hHeld116)
  (try clear hHeld117)
  (try clear hHeld118)
  (try clear hHeld119)
  (try clear hHeld120)
  (try clear hHeld121)
  (try clear hHeld122)
  (try clear hHeld123)
  (try clear hHeld124)
  (try clear hHeld125)
  (try clear hHeld126)
  (try clear hHeld127)
  (try clear hHeld128)
  (try clear hHeld129)
  (try clear hHeld130)
  (try clear hHeld131)
  (try clear hHeld132)
  (try clear hHeld133)
  (try clear hHeld134)
  (try clear hHeld135)
  (try clear hHeld136)
  (try clear hHeld137)
  (try clear hHeld138)
  (try clear hHeld139)
  (try clear hHeld140)
  (try clear hHeld141)
  (try clear hHeld142)
  (try clear hHeld143)
  (try clear hHeld144)
  (try clear hHeld145)
  (try clear hHeld146)
  (try clear hHeld147)
  (try clear hHeld148)
  (try clear hHeld149)
  (try clear hHeld150)
  (try clear hHeld151)
  (try clear hHeld152)
  (try clear hHeld153)
  (try clear hHeld154)
  (try clear hHeld155)
  (try clear hHeld156)
  (try clear hHeld157)
  (try clear hHeld158)
  (try clear hHeld159)
  (try clear hHeld160)
  (try clear hHeld161)
  (try clear hHeld162)
  (try clear hHeld163)
  (try clear hHeld164)
  (try clear hHeld165)
  (try clear hHeld166)
  (try clear hHeld167)
  (try clear hHeld168)
  (try clear hHeld169)
  (try clear hHeld170)
  (try clear hHeld171)
  (try clear hHeld172)
  (try clear hHeld173)
  (try clear hHeld174)
  (try clear hHeld175)
  (try clear hHeld176)
  (try clear hHeld177)
  (try clear hHeld178)
  (try clear hHeld179)
  (try clear hHeld180)
  (try clear hHeld181)
  (try clear hHeld182)
  (try clear hHeld183)
  (try clear hHeld184)
  (try clear hHeld185)
  (try clear hHeld186)
  (try clear hHeld187)
  (try clear hHeld188)
  (try clear hHeld189)
  (try clear hHeld190)
  (try clear hHeld191)
  (try clear hHeld192)
  (try clear hHeld193)
  (try clear hHeld194)
  (try clear hHeld195)
  (try clear hHeld196)
  (try clear hHeld197)
  (try clear hHeld198)
  (try clear hHeld199)
  (try clear hHeld200)
  (try clear hHeld201)
  (try clear hHeld202)
  (try clear hHeld203)
  (try clear hHeld204)
  (try clear hHeld205)
  (try clear hHeld206)
  (try clear hHeld207)
  (try clear hHeld208)
  (try clear hHeld209)
  (try clear hHeld210)
  (try clear hHeld211)
  (try clear hHeld212)
  (try clear hHeld213)
  (try clear hHeld214)
  (try clear hHeld215)
  (try clear hHeld216)
  (try clear hHeld217)
  (try clear hHeld218)
  (try clear hHeld219)
  (try clear hHeld220)
  (try clear hHeld221)
  (try clear hHeld222)
  (try clear hHeld223)
  (try clear hHeld224)
  (try clear hHeld225)
  (try clear hHeld226)
  (try clear hHeld227)
  (try clear hHeld228)
  (try clear hHeld229)
  (try clear hHeld230)
  (try clear hHeld231)
  (try clear hHeld232)
  (try clear hHeld233)
  (try clear hHeld234)
  (try clear hHeld235)
  (try clear hHeld236)
  (try clear hHeld237)
  (try clear hHeld238)
  (try clear hHeld239)
  (try clear hHeld240)
  (try clear hHeld241)
  (try clear hHeld242)
  (try clear hHeld243)
  (try clear hHeld244)
  (try clear hHeld245)
  (try clear hHeld246)
  (try clear hHeld247)
  (try clear hHeld248)
  (try clear hHeld249)
  (try clear hHeld250)
  (try clear hHeld251)
  (try clear hHeld252)
  (try clear hHeld253)
  (try clear hHeld254)
  (try clear hHeld255)
  (try clear hHeld256)
  (try clear hHeld257)
  (try clear hHeld258)
  (try clear hHeld259)
  (try clear hHeld260)
  (try clear hHeld261)
  (try clear hHeld262)
  (try clear hHeld263)
  (try clear hHeld264)
  (try clear hHeld265)
  (try clear hHeld266)
  (try clear hHeld267)
  (try clear hHeld268)
  (try clear hHeld269)
  (try clear hHeld270)
  (try clear hHeld271)
  (try clear hHeld272)
  (try clear hHeld273)
  (try clear hHeld274)
  (try clear hHeld275)
  (try clear hHeld276)
  (try clear hHeld277)
  (try clear hHeld278)
  (try clear hHeld279)
  (try clear hHeld280)
  (try clear hHeld281)
  (try clear hHeld282)
  (try clear hHeld283)
  (try clear hHeld284)
  (try clear hHeld285)
  (try clear hHeld286)
  (try clear hHeld287)
  (try clear hHeld288)
  (try clear hHeld289)
  (try clear hHeld290)
  (try clear hHeld291)
  (try clear hHeld292)
  (try clear hHeld293)
  (try clear hHeld294)
  (try clear hHeld295)
  (try clear hHeld296)
  (try clear hHeld297)
  (try clear hHeld298)
  (try clear hHeld299)
  clear HS
  by_cases hcv : cmpQ v (wf : Rat) = 0
  ·have heq := cmpQ_zero.1 hcv
   have hb : (cmpQ v (wf : Rat) != 0) = false := by rw [hcv]; rfl
   have HLW := Lib.hid (HOPT.out.2 heq)
   generalize cmpQ v (wf : Rat) = cv at *
   have HBX := Lib.hid (Kp.blk hp HBO.out)
   have HW9 := Lib.hid (HV.out.trans (Below.mono hp HV.out.size))
   have HJ1 := Lib.hid (HI1.out.below hp)
   have HJ2 := Lib.hid (HI2.out.below hp)
   clear heq hcv hp HBO HV HI1 HI2 HBW TF TC HOPT HVL
   generalize x4 = V9 at *
   go_wp2_with fail
   go_loopw [14] (fun t wr => ∃ i : Nat, i ≤ gn ∧ t = .int .i64 i ∧ Hid (Kp V9 wr) ∧ Hid (∀ j, j < i → ((xs[j]?.getD 0 : Int) : Rat) = gs[j]?.getD 0)) (fun t _ => gn - (intOf t).toNat)
   case atStart => exact ⟨0, Nat.zero_le _, rfl, Kp.refl V9, fun j hj => absurd hj (by omega)⟩
   case round =>
    obtain ⟨i, hi, rfl, HKZ, HPV⟩ := hrel
    obtain ⟨wz, rfl⟩ : ∃ u, u = wr := ⟨_, rfl⟩
    have HWZ := Lib.hid (HW9.out.trans (Below.mono HKZ.out HW9.out.size))
    have HBO9 := Lib.hid (Kp.blk HKZ.out HBX.out)
    by_cases hlt : i < gn
    ·obtain ⟨b, o, rfl, hb0, hcl⟩ := (HQG.out.below HWZ.out).2 (by omega)
     obtain ⟨an, aA, ak, ac, an', aA', ak', ac', y0, y1, y2, y3, hqs⟩ := hcl i hlt
     have hbl := hb0
     have hxc := (HJ1.out.below HKZ.out).cell (i := i) (by have := HLX.out; omega)
     have hgl := (HJ1.out.below HKZ.out).lt
     have hxb := HXB.out i (by omega)
     have HXE0 : Hid (xs[i]?.getD 0 = xs[i]?.getD 0) := Lib.hid rfl
     generalize hxe : xs[i]?.getD 0 = x at *
     generalize hre : gs[i]?.getD 0 = r at *
     have HXE := Lib.hid hxe
     have HRE := Lib.hid hre
     have TF := Lib.hid (fun W => qfromInt64_any x W (by omega) (by omega))
     have hl3 : Ls 7 ((x : Int) : Rat) := (ls_int (Nat.le_refl 3) (by omega)).mono (by decide)
     have TC := Lib.hid (fun (W : World) (hW : Kp wz W) (N : Option Addr) (n o : Nat) (M : Option Addr) (p s : Nat) (hh : RQ W (x : Rat) N n o M p s) => cmp_s (s := 7) (hh.qs hl3 (by decide)) (hqs.below hW))
     have i1 : (0 : Int) ≤ (i : Int) := by omega
     have i2 : (i : Int) < (gn : Int) := by omega
     clear hcl hqs hxe hre hxb hl3 HXE0 hb0
     go_wp2_with fail
     have HS := Lib.hid (show ∀ w', Kp wz w' → (w'.cell? ⟨gx, 3, none⟩ = some (.slice (some ⟨g1, 0, none⟩) gn gn) ∧ w'.cell? ⟨g1, i, none⟩ = some (.int .i64 x) ∧ w'.cell? ⟨b, o + i * 4, none⟩ = some (.bool an) ∧ w'.cell? ⟨b, o + i * 4 + 1, none⟩ = some (.slice aA ak ac) ∧ w'.cell? ⟨b, o + i * 4 + 2, none⟩ = some (.bool an') ∧ w'.cell? ⟨b, o + i * 4 + 3, none⟩ = some (.slice aA' ak' ac')) ∧ Kp wz w' from fun w' hk => ⟨⟨(Kp.blk hk HBO9.out).cell 3, (Below.cell hk (p := ⟨g1, _, none⟩) hgl).trans hxc, (Below.cell hk (p := ⟨b, _, none⟩) hbl).trans y0, (Below.cell hk (p := ⟨b, _, none⟩) hbl).trans y1, (Below.cell hk (p := ⟨b, _, none⟩) hbl).trans y2, (Below.cell hk (p := ⟨b, _, none⟩) hbl).trans y3⟩, hk⟩)
     refine wp_region_held_drew (S := fun w' => (w'.cell? ⟨gx, 3, none⟩ = some (.slice (some ⟨g1, 0, none⟩) gn gn) ∧ w'.cell? ⟨g1, i, none⟩ = some (.int .i64 x) ∧ w'.cell? ⟨b, o + i * 4, none⟩ = some (.bool an) ∧ w'.cell? ⟨b, o + i * 4 + 1, none⟩ = some (.slice aA ak ac) ∧ w'.cell? ⟨b, o + i * 4 + 2, none⟩ = some (.bool an') ∧ w'.cell? ⟨b, o + i * 4 + 3, none⟩ = some (.slice aA' ak' ac')) ∧ Kp wz w') (by kernel_rfl) (HS.out _ (Kp.drew (Kp.refl wz))) (fun hHeld => ?_)
     refine' tkk 0 rfl (by kernel_rfl) (fun _ _ _ h => h) (.inl ⟨by rfl, ?_⟩) (by assumption) ?_; rotate_left
     ·(intro w hSw; (try dsimp only at hSw); (try simp only [p1, p2, p3]); go_simp; first | done | with_reducible rfl)
     (try simp only [Act.put, p1, p2, p3, p4, p5, p6])
     refine' tkk 1 rfl (by kernel_rfl) (fun _ _ _ h => h) (.inl ⟨by rfl, ?_⟩) (by assumption) ?_; rotate_left
     ·(intro w hSw; (try dsimp only at hSw); (try simp only [p1, p2, p3]); go_simp; first | done | with_reducible rfl)
     (try simp only [Act.put, p1, p2, p3, p4, p5, p6])
     refine' tkk 2 rfl (by kernel_rfl) (fun _ _ _ h => h) (.inl ⟨by rfl, ?_⟩) (by assumption) ?_; rotate_left
     ·(intro w hSw; (try dsimp only at hSw); (try simp only [p1, p2, p3]); go_simp; first | done | with_reducible rfl)
     (try simp only [Act.put, p1, p2, p3, p4, p5, p6])
     refine' tkk 3 rfl (by kernel_rfl) (fun _ _ _ h => h) (.inl ⟨by rfl, ?_⟩) (by assumption) ?_; rotate_left
     ·(intro w hSw; (try dsimp only at hSw); (try simp only [p1, p2, p3]); go_simp; first | done | with_reducible rfl)
     (try simp only [Act.put, p1, p2, p3, p4, p5, p6])
     refine' tkk 4 rfl (by kernel_rfl) (fun _ _ _ h => h) (.inl ⟨by rfl, ?_⟩) (by assumption) ?_; rotate_left
     ·(intro w hSw; (try dsimp only at hSw); (try simp only [p1, p2, p3]); go_simp; first | done | with_reducible rfl)
     (try simp only [Act.put, p1, p2, p3, p4, p5, p6])
     refine' tkk 6 rfl (by kernel_rfl) (fun _ _ _ h => h) (.inl ⟨by rfl, ?_⟩) (by assumption) ?_; rotate_left
     ·(intro w hSw; (try dsimp only at hSw); (try simp only [p1, p2, p3]); go_simp; first | done | with_reducible rfl)
     (try simp only [Act.put, p1, p2, p3, p4, p5, p6])
     refine' tkk 7 rfl (by kernel_rfl) (fun _ _ _ h => h) (.inl ⟨by rfl, ?_⟩) (by assumption) ?_; rotate_left
     ·(intro w hSw; (try dsimp only at hSw); (try simp only [p1, p2, p3]); go_simp; first | done | with_reducible rfl)
     (try simp only [Act.put, p1, p2, p3, p4, p5, p6])
     refine' tkk 8 rfl (by kernel_rfl) (fun _ _ _ h => h) (.inl ⟨by rfl, ?_⟩) (by assumption) ?_; rotate_left
     ·(intro w hSw; (try dsimp only at hSw); (try simp only [p1, p2, p3]); go_simp; first | done | with_reducible rfl)
     (try simp only [Act.put, p1, p2, p3, p4, p5, p6])
     refine' tkk 9 rfl (by kernel_rfl) (fun _ _ _ h => h) (.inl ⟨by rfl, ?_⟩) (by assumption) ?_; rotate_left
     ·(intro w hSw; (try dsimp only at hSw); (try simp only [p1, p2, p3]); go_simp; first | done | with_reducible rfl)
     (try simp only [Act.put, p1, p2, p3, p4, p5, p6])
     refine wpAnyH_ready (rs := [5]) (by kernel_rfl) (by simp) ?_
     refine AllReadyH.cons rfl (fun K hK => ?_) AllReadyH.nil
     (try simp only [p1, p2, p3])
     go_simp
     have hk := And.right ‹_ ∧ Kp wz _›
     refine (TF.out _).mono ?_
     rintro e x3 ⟨N3, n3, o3, M3, p3, s3, rfl, hk1, hk2, hW1, hW2, -, -, hbx⟩
     have hp : Kp wz x3 := Kp.trans hk hbx
     have h3r := (show RQ x3 (x : Rat) N3 n3 o3 M3 p3 s3 from ⟨hk1, hk2, hW1, hW2⟩)
     clear hk hbx hk1 hk2 hW1 hW2
     (try (go_wp2_with fail))
     refine hK.out _ _ ?k3 (fun hHeld3 => ?n3)
     case k3 => ((try dsimp only); first | (with_reducible refine HS.out _ ?_; with_reducible assumption) | (with_reducible refine HS.out _ (Kp.drew ?_); with_reducible assumption) | (with_reducible refine' HS.out _ (Kp.drew (And.right ?_)); rotate_left; with_reducible assumption))
     clear hK K
     (try simp only [Act.put, p1, p2, p3, p4, p5, p6])
     refine wpAnyH_ready (rs := [10]) (by kernel_rfl) (by simp) ?_
     refine AllReadyH.cons rfl (fun K hK => ?_) AllReadyH.nil
     (try simp only [p1, p2, p3])
     go_simp
     have hk := And.right ‹_ ∧ Kp wz _›
     refine (TC.out _ hk _ _ _ _ _ _ h3r).mono ?_
     rintro e x4 ⟨rfl, hbx⟩
     have hp : Kp wz x4 := Kp.trans hk hbx
     clear hk hbx h3r
     (try (go_wp2_with fail))
     refine hK.out _ _ ?k4 (fun hHeld4 => ?n4)
     case k4 => ((try dsimp only); first | (with_reducible refine HS.out _ ?_; with_reducible assumption) | (with_reducible refine HS.out _ (Kp.drew ?_); with_reducible assumption) | (with_reducible refine' HS.out _ (Kp.drew (And.right ?_)); rotate_left; with_reducible assumption))
     clear hK K
     (try simp only [Act.put, p1, p2, p3, p4, p5, p6])
     refine' tkk 11 rfl (by kernel_rfl) (fun _ _ _ h => h) (.inl ⟨by rfl, ?_⟩) (by assumption) ?_; rotate_left
     ·(intro w hSw; (try dsimp only at hSw); (try simp only [p1, p2, p3]); go_simp; first | done | with_reducible rfl)
     (try simp only [Act.put, p1, p2, p3, p4, p5, p6])
     refine wpAnyH_done (by kernel_rfl) ?_ _
     (try clear hHeld1)
     (try clear hHeld2)
     (try clear hHeld3)
     (try clear hHeld4)
     (try clear hHeld5)
     (try clear hHeld6)
     (try clear hHeld7)
     (try clear hHeld8)
     (try clear hHeld9)
     (try clear hHeld10)
     (try clear hHeld11)
     (try clear hHeld12)
     (try clear hHeld13)
     (try clear hHeld14)
     (try clear hHeld15)
     (try clear hHeld16)
     (try clear hHeld17)
     (try clear hHeld18)
     (try clear hHeld19)
     (try clear hHeld20)
     (try clear hHeld21)
     (try clear hHeld22)
     (try clear hHeld23)
     (try clear hHeld24)
     (try clear hHeld25)
     (try clear hHeld26)
     (try clear hHeld27)
     (try clear hHeld28)
     (try clear hHeld29)
     (try clear hHeld30)
     (try clear hHeld31)
     (try clear hHeld32)
     (try clear hHeld33)
     (try clear hHeld34)
     (try clear hHeld35)
     (try clear hHeld36)
     (try clear hHeld37)
     (try clear hHeld38)
     (try clear hHeld39)
     (try clear hHeld40)
     (try clear hHeld41)
     (try clear hHeld42)
     (try clear hHeld43)
     (try clear hHeld44)
     (try clear hHeld45)
     (try clear hHeld46)
     (try clear hHeld47)
     (try clear hHeld48)
     (try clear hHeld49)
     (try clear hHeld50)
     (try clear hHeld51)
     (try clear hHeld52)
     (try clear hHeld53)
     (try clear hHeld54)
     (try clear hHeld55)
     (try clear hHeld56)
     (try clear hHeld57)
     (try clear hHeld58)
     (try clear hHeld59)
     (try clear hHeld60)
     (try clear hHeld61)
     (try clear hHeld62)
     (try clear hHeld63)
     (try clear hHeld64)
     (try clear hHeld65)
     (try clear hHeld66)
     (try clear hHeld67)
     (try clear hHeld68)
     (try clear hHeld69)
     (try clear hHeld70)
     (try clear hHeld71)
     (try clear hHeld72)
     (try clear hHeld73)
     (try clear hHeld74)
     (try clear hHeld75)
     (try clear hHeld76)
     (try clear hHeld77)
     (try clear hHeld78)
     (try clear hHeld79)
     (try clear hHeld80)
     (try clear hHeld81)
     (try clear hHeld82)
     (try clear hHeld83)
     (try clear hHeld84)
     (try clear hHeld85)
     (try clear hHeld86)
     (try clear hHeld87)
     (try clear hHeld88)
     (try clear hHeld89)
     (try clear hHeld90)
     (try clear hHeld91)
     (try clear hHeld92)
     (try clear hHeld93)
     (try clear hHeld94)
     (try clear hHeld95)
     (try clear hHeld96)
     (try clear hHeld97)
     (try clear hHeld98)
     (try clear hHeld99)
     (try clear hHeld100)
     (try clear hHeld101)
     (try clear hHeld102)
     (try clear hHeld103)
     (try clear hHeld104)
     (try clear hHeld105)
     (try clear hHeld106)
     (try clear hHeld107)
     (try clear hHeld108)
     (try clear hHeld109)
     (try clear hHeld110)
     (try clear hHeld111)
     (try clear hHeld112)
     (try clear hHeld113)
     (try clear hHeld114)
     (try clear hHeld115)
     (try clear hHeld116)
     (try clear hHeld117)
     (try clear hHeld118)
     (try clear hHeld119)
     (try clear hHeld120)
     (try clear hHeld121)
     (try clear hHeld122)
     (try clear hHeld123)
     (try clear hHeld124)
     (try clear hHeld125)
     (try clear hHeld126)
     (try clear hHeld127)
     (try clear hHeld128)
     (try clear hHeld129)
     (try clear hHeld130)
     (try clear hHeld131)
     (try clear hHeld132)
     (try clear hHeld133)
     (try clear hHeld134)
     (try clear hHeld135)
     (try clear hHeld136)
     (try clear hHeld137)
     (try clear hHeld138)
     (try clear hHeld139)
     (try clear hHeld140)
     (try clear hHeld141)
     (try clear hHeld142)
     (try clear hHeld143)
     (try clear hHeld144)
     (try clear hHeld145)
     (try clear hHeld146)
     (try clear hHeld147)
     (try clear hHeld148)
     (try clear hHeld149)
     (try clear hHeld150)
     (try clear hHeld151)
     (try clear hHeld152)
     (try clear hHeld153)
     (try clear hHeld154)
     (try clear hHeld155)
     (try clear hHeld156)
     (try clear hHeld157)
     (try clear hHeld158)
     (try clear hHeld159)
     (try clear hHeld160)
     (try clear hHeld161)
     (try clear hHeld162)
     (try clear hHeld163)
     (try clear hHeld164)
     (try clear hHeld165)
     (try clear hHeld166)
     (try clear hHeld167)
     (try clear hHeld168)
     (try clear hHeld169)
     (try clear hHeld170)
     (try clear hHeld171)
     (try clear hHeld172)
     (try clear hHeld173)
     (try clear hHeld174)
     (try clear hHeld175)
     (try clear hHeld176)
     (try clear hHeld177)
     (try clear hHeld178)
     (try clear hHeld179)
     (try clear hHeld180)
     (try clear hHeld181)
     (try clear hHeld182)
     (try clear hHeld183)
     (try clear hHeld184)
     (try clear hHeld185)
     (try clear hHeld186)
     (try clear hHeld187)
     (try clear hHeld188)
     (try clear hHeld189)
     (try clear hHeld190)
     (try clear hHeld191)
     (try clear hHeld192)
     (try clear hHeld193)
     (try clear hHeld194)
     (try clear hHeld195)
     (try clear hHeld196)
     (try clear hHeld197)
     (try clear hHeld198)
     (try clear hHeld199)
     (try clear hHeld200)
     (try clear hHeld201)
     (try clear hHeld202)
     (try clear hHeld203)
     (try clear hHeld204)
     (try clear hHeld205)
     (try clear hHeld206)
     (try clear hHeld207)
     (try clear hHeld208)
     (try clear hHeld209)
     (try clear hHeld210)
     (try clear hHeld211)
     (try clear hHeld212)
     (try clear hHeld213)
     (try clear hHeld214)
     (try clear hHeld215)
     (try clear hHeld216)
     (try clear hHeld217)
     (try clear hHeld218)
     (try clear hHeld219)
     (try clear hHeld220)
     (try clear hHeld221)
     (try clear hHeld222)
     (try clear hHeld223)
     (try clear hHeld224)
     (try clear hHeld225)
     (try clear hHeld226)
     (try clear hHeld227)
     (try clear hHeld228)
     (try clear hHeld229)
     (try clear hHeld230)
     (try clear hHeld231)
     (try clear hHeld232)
     (try clear hHeld233)
     (try clear hHeld234)
     (try clear hHeld235)
     (try clear hHeld236)
     (try clear hHeld237)
     (try clear hHeld238)
     (try clear hHeld239)
     (try clear hHeld240)
     (try clear hHeld241)
     (try clear hHeld242)
     (try clear hHeld243)
     (try clear hHeld244)
     (try clear hHeld245)
     (try clear hHeld246)
     (try clear hHeld247)
     (try clear hHeld248)
     (try clear hHeld249)
     (try clear hHeld250)
     (try clear hHeld251)
     (try clear hHeld252)
     (try clear hHeld253)
     (try clear hHeld254)
     (try clear hHeld255)
     (try clear hHeld256)
     (try clear hHeld257)
     (try clear hHeld258)
     (try clear hHeld259)
     (try clear hHeld260)
     (try clear hHeld261)
     (try clear hHeld262)
     (try clear hHeld263)
     (try clear hHeld264)
     (try clear hHeld265)
     (try clear hHeld266)
     (try clear hHeld267)
     (try clear hHeld268)
     (try clear hHeld269)
     (try clear hHeld270)
     (try clear hHeld271)
     (try clear hHeld272)
     (try clear hHeld273)
     (try clear hHeld274)
     (try clear hHeld275)
     (try clear hHeld276)
     (try clear hHeld277)
     (try clear hHeld278)
     (try clear hHeld279)
     (try clear hHeld280)
     (try clear hHeld281)
     (try clear hHeld282)
     (try clear hHeld283)
     (try clear hHeld284)
     (try clear hHeld285)
     (try clear hHeld286)
     (try clear hHeld287)
     (try clear hHeld288)
     (try clear hHeld289)
     (try clear hHeld290)
     (try clear hHeld291)
     (try clear hHeld292)
     (try clear hHeld293)
     (try clear hHeld294)
     (try clear hHeld295)
     (try clear hHeld296)
     (try clear hHeld297)
     (try clear hHeld298)
     (try clear hHeld299)
     clear HS
     have HF := Lib.hid (HWZ.out.trans (Below.mono hp HWZ.out.size))
     have hp9 := Lib.hid (Kp.trans HKZ.out hp)
     by_cases hcv : cmpQ (x : Rat) r = 0
     ·have hq := cmpQ_zero.1 hcv
      have hb : (cmpQ (x : Rat) r != 0) = false := by rw [hcv]; rfl
      have HEQ := Lib.hid hq
      generalize cmpQ (x : Rat) r = cv at *
      clear hq hcv hp HF HWZ HBO9
      go_wp2_with fail
      go_roundw
      case rel => exact ⟨i + 1, by omega, by first | rfl | go_num, hp9.out, fun j hj => by
       by_cases hji : j < i
       ·exact HPV.out j hji
       ·obtain rfl : j = i := by omega
        rw [HXE.out, HRE.out]
        exact HEQ.out⟩
      case measure => simp [intOf]; omega
     ·have hlt9 : (x : Rat) < r := by
       rw [← HXE.out, ← HRE.out]
       exact HLW.out.1 i (by have := HLA.out; omega) HPV.out (fun e => hcv (cmpQ_zero.2 (by rw [← HXE.out, ← HRE.out]; exact e)))
      have hneg : cmpQ (x : Rat) r = -1 := cmpQ_lt.2 hlt9
      have hb : (cmpQ (x : Rat) r != 0) = true := by rw [hneg]; rfl
      have hc2 : decide (cmpQ (x : Rat) r < 0) = true := by rw [hneg]; decide
      generalize cmpQ (x : Rat) r = cv at *
      clear hlt9 hcv hp HWZ HBO9 hneg
      go_wp2_with fail
      go_ret
      exact ⟨rfl, HF.out⟩
    ·obtain rfl : i = gn := by omega
     have HAL := Lib.hid HPV.out
     have HST := Lib.hid HKZ.out
     clear HPV HKZ HWZ HBO9
     go_wp2_with fail
     go_loopw [16] (fun t wr => ∃ i : Nat, i ≤ hn ∧ t = .int .i64 i ∧ Hid (Kp V9 wr) ∧ Hid (∀ j, j < i → ((ys[j]?.getD 0 : Int) : Rat) = ts[j]?.getD 0)) (fun t _ => hn - (intOf t).toNat)
     case atStart => exact ⟨0, Nat.zero_le _, rfl, HST.out, fun j hj => absurd hj (by omega)⟩
     case round =>
      obtain ⟨i, hi, rfl, HKZ, HPV⟩ := hrel
      obtain ⟨wz, rfl⟩ : ∃ u, u = wr := ⟨_, rfl⟩
      have HWZ := Lib.hid (HW9.out.trans (Below.mono HKZ.out HW9.out.size))
      have HBO9 := Lib.hid (Kp.blk HKZ.out HBX.out)
      by_cases hlt : i < hn
      ·obtain ⟨b, o, rfl, hb0, hcl⟩ := (HQH.out.below HWZ.out).2 (by omega)
       obtain ⟨an, aA, ak, ac, an', aA', ak', ac', y0, y1, y2, y3, hqs⟩ := hcl i hlt
       have hbl := hb0
       have hxc := (HJ2.out.below HKZ.out).cell (i := i) (by have := HLY.out; omega)
       have hgl := (HJ2.out.below HKZ.out).lt
       have hxb := HYB.out i (by omega)
       have HXE0 : Hid (ys[i]?.getD 0 = ys[i]?.getD 0) := Lib.hid rfl
       generalize hxe : ys[i]?.getD 0 = x at *
       generalize hre : ts[i]?.getD 0 = r at *
       have HXE := Lib.hid hxe
       have HRE := Lib.hid hre
       have TF := Lib.hid (fun W => qfromInt64_any x W (by omega) (by omega))
       have hl3 : Ls 7 ((x : Int) : Rat) := (ls_int (Nat.le_refl 3) (by omega)).mono (by decide)
       have TC := Lib.hid (fun (W : World) (hW : Kp wz W) (N : Option Addr) (n o : Nat) (M : Option Addr) (p s : Nat) (hh : RQ W (x : Rat) N n o M p s) => cmp_s (s := 7) (hh.qs hl3 (by decide)) (hqs.below hW))
       have i1 : (0 : Int) ≤ (i : Int) := by omega
       have i2 : (i : Int) < (hn : Int) := by omega
       clear hcl hqs hxe hre hxb hl3 HXE0 hb0
       go_wp2_with fail
       have HS := Lib.hid (show ∀ w', Kp wz w' → (w'.cell? ⟨gx, 4, none⟩ = some (.slice (some ⟨g2, 0, none⟩) hn hn) ∧ w'.cell? ⟨g2, i, none⟩ = some (.int .i64 x) ∧ w'.cell? ⟨b, o + i * 4, none⟩ = some (.bool an) ∧ w'.cell? ⟨b, o + i * 4 + 1, none⟩ = some (.slice aA ak ac) ∧ w'.cell? ⟨b, o + i * 4 + 2, none⟩ = some (.bool an') ∧ w'.cell? ⟨b, o + i * 4 + 3, none⟩ = some (.slice aA' ak' ac')) ∧ Kp wz w' from fun w' hk => ⟨⟨(Kp.blk hk HBO9.out).cell 4, (Below.cell hk (p := ⟨g2, _, none⟩) hgl).trans hxc, (Below.cell hk (p := ⟨b, _, none⟩) hbl).trans y0, (Below.cell hk (p := ⟨b, _, none⟩) hbl).trans y1, (Below.cell hk (p := ⟨b, _, none⟩) hbl).trans y2, (Below.cell hk (p := ⟨b, _, none⟩) hbl).trans y3⟩, hk⟩)
       refine wp_region_held_drew (S := fun w' => (w'.cell? ⟨gx, 4, none⟩ = some (.slice (some ⟨g2, 0, none⟩) hn hn) ∧ w'.cell? ⟨g2, i, none⟩ = some (.int .i64 x) ∧ w'.cell? ⟨b, o + i * 4, none⟩ = some (.bool an) ∧ w'.cell? ⟨b, o + i * 4 + 1, none⟩ = some (.slice aA ak ac) ∧ w'.cell? ⟨b, o + i * 4 + 2, none⟩ = some (.bool an') ∧ w'.cell? ⟨b, o + i * 4 + 3, none⟩ = some (.slice aA' ak' ac')) ∧ Kp wz w') (by kernel_rfl) (HS.out _ (Kp.drew (Kp.refl wz))) (fun hHeld => ?_)
       refine' tkk 0 rfl (by kernel_rfl) (fun _ _ _ h => h) (.inl ⟨by rfl, ?_⟩) (by assumption) ?_; rotate_left
       ·(intro w hSw; (try dsimp only at hSw); (try simp only [p1, p2, p3]); go_simp; first | done | with_reducible rfl)
       (try simp only [Act.put, p1, p2, p3, p4, p5, p6])
       refine' tkk 1 rfl (by kernel_rfl) (fun _ _ _ h => h) (.inl ⟨by rfl, ?_⟩) (by assumption) ?_; rotate_left
       ·(intro w hSw; (try dsimp only at hSw); (try simp only [p1, p2, p3]); go_simp; first | done | with_reducible rfl)
       (try simp only [Act.put, p1, p2, p3, p4, p5, p6])
       refine' tkk 2 rfl (by kernel_rfl) (fun _ _ _ h => h) (.inl ⟨by rfl, ?_⟩) (by assumption) ?_; rotate_left
       ·(intro w hSw; (try dsimp only at hSw); (try simp only [p1, p2, p3]); go_simp; first | done | with_reducible rfl)
       (try simp only [Act.put, p1, p2, p3, p4, p5, p6])
       refine' tkk 3 rfl (by kernel_rfl) (fun _ _ _ h => h) (.inl ⟨by rfl, ?_⟩) (by assumption) ?_; rotate_left
       ·(intro w hSw; (try dsimp only at hSw); (try simp only [p1, p2, p3]); go_simp; first | done | with_reducible rfl)
       (try simp only [Act.put, p1, p2, p3, p4, p5, p6])
       refine' tkk 4 rfl (by kernel_rfl) (fun _ _ _ h => h) (.inl ⟨by rfl, ?_⟩) (by assumption) ?_; rotate_left
       ·(intro w hSw; (try dsimp only at hSw); (try simp only [p1, p2, p3]); go_simp; first | done | with_reducible rfl)
       (try simp only [Act.put, p1, p2, p3, p4, p5, p6])
       refine' tkk 6 rfl (by kernel_rfl) (fun _ _ _ h => h) (.inl ⟨by rfl, ?_⟩) (by assumption) ?_; rotate_left
       ·(intro w hSw; (try dsimp only at hSw); (try simp only [p1, p2, p3]); go_simp; first | done | with_reducible rfl)
       (try simp only [Act.put, p1, p2, p3, p4, p5, p6])
       refine' tkk 7 rfl (by kernel_rfl) (fun _ _ _ h => h) (.inl ⟨by rfl, ?_⟩) (by assumption) ?_; rotate_left
       ·(intro w hSw; (try dsimp only at hSw); (try simp only [p1, p2, p3]); go_simp; first | done | with_reducible rfl)
       (try simp only [Act.put, p1, p2, p3, p4, p5, p6])
       refine' tkk 8 rfl (by kernel_rfl) (fun _ _ _ h => h) (.inl ⟨by rfl, ?_⟩) (by assumption) ?_; rotate_left
       ·(intro w hSw; (try dsimp only at hSw); (try simp only [p1, p2, p3]); go_simp; first | done | with_reducible rfl)
       (try simp only [Act.put, p1, p2, p3, p4, p5, p6])
       refine' tkk 9 rfl (by kernel_rfl) (fun _ _ _ h => h) (.inl ⟨by rfl, ?_⟩) (by assumption) ?_; rotate_left
       ·(intro w hSw; (try dsimp only at hSw); (try simp only [p1, p2, p3]); go_simp; first | done | with_reducible rfl)
       (try simp only [Act.put, p1, p2, p3, p4, p5, p6])
       refine wpAnyH_ready (rs := [5]) (by kernel_rfl) (by simp) ?_
       refine AllReadyH.cons rfl (fun K hK => ?_) AllReadyH.nil
       (try simp only [p1, p2, p3])
       go_simp
       have hk := And.right ‹_ ∧ Kp wz _›
       refine (TF.out _).mono ?_
       rintro e x3 ⟨N3, n3, o3, M3, p3, s3, rfl, hk1, hk2, hW1, hW2, -, -, hbx⟩
       have hp : Kp wz x3 := Kp.trans hk hbx
       have h3r := (show RQ x3 (x : Rat) N3 n3 o3 M3 p3 s3 from ⟨hk1, hk2, hW1, hW2⟩)
       clear hk hbx hk1 hk2 hW1 hW2
       (try (go_wp2_with fail))
       refine hK.out _ _ ?k1 (fun hHeld1 => ?n1)
       case k1 => ((try dsimp only); first | (with_reducible refine HS.out _ ?_; with_reducible assumption) | (with_reducible refine HS.out _ (Kp.drew ?_); with_reducible assumption) | (with_reducible refine' HS.out _ (Kp.drew (And.right ?_)); rotate_left; with_reducible assumption))
       clear hK K
       (try simp only [Act.put, p1, p2, p3, p4, p5, p6])
       refine wpAnyH_ready (rs := [10]) (by kernel_rfl) (by simp) ?_
       refine AllReadyH.cons rfl (fun K hK => ?_) AllReadyH.nil
       (try simp only [p1, p2, p3])
       go_simp
       have hk := And.right ‹_ ∧ Kp wz _›
       refine (TC.out _ hk _ _ _ _ _ _ h3r).mono ?_
       rintro e x4 ⟨rfl, hbx⟩
       have hp : Kp wz x4 := Kp.trans hk hbx
       clear hk hbx h3r
       (try (go_wp2_with fail))
       refine hK.out _ _ ?k2 (fun hHeld2 => ?n2)
       case k2 => ((try dsimp only); first | (with_reducible refine HS.out _ ?_; with_reducible assumption) | (with_reducible refine HS.out _ (Kp.drew ?_); with_reducible assumption) | (with_reducible refine' HS.out _ (Kp.drew (And.right ?_)); rotate_left; with_reducible assumption))
       clear hK K
       (try simp only [Act.put, p1, p2, p3, p4, p5, p6])
       refine' tkk 11 rfl (by kernel_rfl) (fun _ _ _ h => h) (.inl ⟨by rfl, ?_⟩) (by assumption) ?_; rotate_left
       ·(intro w hSw; (try dsimp only at hSw); (try simp only [p1, p2, p3]); go_simp; first | done | with_reducible rfl)
       (try simp only [Act.put, p1, p2, p3, p4, p5, p6])
       refine wpAnyH_done (by kernel_rfl) ?_ _
       (try clear hHeld1)
       (try clear hHeld2)
       (try clear hHeld3)
       (try clear hHeld4)
       (try clear hHeld5)
       (try clear hHeld6)
       (try clear hHeld7)
       (try clear hHeld8)
       (try clear hHeld9)
       (try clear hHeld10)
       (try clear hHeld11)
       (try clear hHeld12)
       (try clear hHeld13)
       (try clear hHeld14)
       (try clear hHeld15)
       (try clear hHeld16)
       (try clear hHeld17)
       (try clear hHeld18)
       (try clear hHeld19)
       (try clear hHeld20)
       (try clear hHeld21)
       (try clear hHeld22)
       (try clear hHeld23)
       (try clear hHeld24)
       (try clear hHeld25)
       (try clear hHeld26)
       (try clear hHeld27)
       (try clear hHeld28)
       (try clear hHeld29)
       (try clear hHeld30)
       (try clear hHeld31)
       (try clear hHeld32)
       (try clear hHeld33)
       (try clear hHeld34)
       (try clear hHeld35)
       (try clear hHeld36)
       (try clear hHeld37)
       (try clear hHeld38)
       (try clear hHeld39)
       (try clear hHeld40)
       (try clear hHeld41)
       (try clear hHeld42)
       (try clear hHeld43)
       (try clear hHeld44)
       (try clear hHeld45)
       (try clear hHeld46)
       (try clear hHeld47)
       (try clear hHeld48)
       (try clear hHeld49)
       (try clear hHeld50)
       (try clear hHeld51)
       (try clear hHeld52)
       (try clear hHeld53)
       (try clear hHeld54)
       (try clear hHeld55)
       (try clear hHeld56)
       (try clear hHeld57)
       (try clear hHeld58)
       (try clear hHeld59)
       (try clear hHeld60)
       (try clear hHeld61)
       (try clear hHeld62)
       (try clear hHeld63)
       (try clear hHeld64)
       (try clear hHeld65)
       (try clear hHeld66)
       (try clear hHeld67)
       (try clear hHeld68)
       (try clear hHeld69)
       (try clear hHeld70)
       (try clear hHeld71)
       (try clear hHeld72)
       (try clear hHeld73)
       (try clear hHeld74)
       (try clear hHeld75)
       (try clear hHeld76)
       (try clear hHeld77)
       (try clear hHeld78)
       (try clear hHeld79)
       (try clear hHeld80)
       (try clear hHeld81)
       (try clear hHeld82)
       (try clear hHeld83)
       (try clear hHeld84)
       (try clear hHeld85)
       (try clear hHeld86)
       (try clear hHeld87)
       (try clear hHeld88)
       (try clear hHeld89)
       (try clear hHeld90)
       (try clear hHeld91)
       (try clear hHeld92)
       (try clear hHeld93)
       (try clear hHeld94)
       (try clear hHeld95)
       (try clear hHeld96)
       (try clear hHeld97)
       (try clear hHeld98)
       (try clear hHeld99)
       (try clear hHeld100)
       (try clear hHeld101)
       (try clear hHeld102)
       (try clear hHeld103)
       (try clear hHeld104)
       (try clear hHeld105)
       (try clear hHeld106)
       (try clear hHeld107)
       (try clear hHeld108)
       (try clear hHeld109)
       (try clear hHeld110)
       (try clear hHeld111)
       (try clear hHeld112)
       (try clear hHeld113)
       (try clear hHeld114)
       (try clear hHeld115)
       (try clear hHeld116)
       (try clear hHeld117)
       (try clear hHeld118)
       (try clear hHeld119)
       (try clear hHeld120)
       (try clear hHeld121)
       (try clear hHeld122)
       (try clear hHeld123)
       (try clear hHeld124)
       (try clear hHeld125)
       (try clear hHeld126)
       (try clear hHeld127)
       (try clear hHeld128)
       (try clear hHeld129)
       (try clear hHeld130)
       (try clear hHeld131)
       (try clear hHeld132)
       (try clear hHeld133)
       (try clear hHeld134)
       (try clear hHeld135)
       (try clear hHeld136)
       (try clear hHeld137)
       (try clear hHeld138)
       (try clear hHeld139)
       (try clear hHeld140)
       (try clear hHeld141)
       (try clear hHeld142)
       (try clear hHeld143)
       (try clear hHeld144)
       (try clear hHeld145)
       (try clear hHeld146)
       (try clear hHeld147)
       (try clear hHeld148)
       (try clear hHeld149)
       (try clear hHeld150)
       (try clear hHeld151)
       (try clear hHeld152)
       (try clear hHeld153)
       (try clear hHeld154)
       (try clear hHeld155)
       (try clear hHeld156)
       (try clear hHeld157)
       (try clear hHeld158)
       (try clear hHeld159)
       (try clear hHeld160)
       (try clear hHeld161)
       (try clear hHeld162)
       (try clear hHeld163)
       (try clear hHeld164)
       (try clear hHeld165)
       (try clear hHeld166)
       (try clear hHeld167)
       (try clear hHeld168)
       (try clear hHeld169)
       (try clear hHeld170)
       (try clear hHeld171)
       (try clear hHeld172)
       (try clear hHeld173)
       (try clear hHeld174)
       (try clear hHeld175)
       (try clear hHeld176)
       (try clear hHeld177)
       (try clear hHeld178)
       (try clear hHeld179)
       (try clear hHeld180)
       (try clear hHeld181)
       (try clear hHeld182)
       (try clear hHeld183)
       (try clear hHeld184)
       (try clear hHeld185)
       (try clear hHeld186)
       (try clear hHeld187)
       (try clear hHeld188)
       (try clear hHeld189)
       (try clear hHeld190)
       (try clear hHeld191)
       (try clear hHeld192)
       (try clear hHeld193)
       (try clear hHeld194)
       (try clear hHeld195)
       (try clear hHeld196)
       (try clear hHeld197)
       (try clear hHeld198)
       (try clear hHeld199)
       (try clear hHeld200)
       (try clear hHeld201)
       (try clear hHeld202)
       (try clear hHeld203)
       (try clear hHeld204)
       (try clear hHeld205)
       (try clear hHeld206)
       (try clear hHeld207)
       (try clear hHeld208)
       (try clear hHeld209)
       (try clear hHeld210)
       (try clear hHeld211)
       (try clear hHeld212)
       (try clear hHeld213)
       (try clear hHeld214)
       (try clear hHeld215)
       (try clear hHeld216)
       (try clear hHeld217)
       (try clear hHeld218)
       (try clear hHeld219)
       (try clear hHeld220)
       (try clear hHeld221)
       (try clear hHeld222)
       (try clear hHeld223)
       (try clear hHeld224)
       (try clear hHeld225)
       (try clear hHeld226)
       (try clear hHeld227)
       (try clear hHeld228)
       (try clear hHeld229)
       (try clear hHeld230)
       (try clear hHeld231)
       (try clear hHeld232)
       (try clear hHeld233)
       (try clear hHeld234)
       (try clear hHeld235)
       (try clear hHeld236)
       (try clear hHeld237)
       (try clear hHeld238)
       (try clear hHeld239)
       (try clear hHeld240)
       (try clear hHeld241)
       (try clear hHeld242)
       (try clear hHeld243)
       (try clear hHeld244)
       (try clear hHeld245)
       (try clear hHeld246)
       (try clear hHeld247)
       (try clear hHeld248)
       (try clear hHeld249)
       (try clear hHeld250)
       (try clear hHeld251)
       (try clear hHeld252)
       (try clear hHeld253)
       (try clear hHeld254)
       (try clear hHeld255)
       (try clear hHeld256)
       (try clear hHeld257)
       (try clear hHeld258)
       (try clear hHeld259)
       (try clear hHeld260)
       (try clear hHeld261)
       (try clear hHeld262)
       (try clear hHeld263)
       (try clear hHeld264)
       (try clear hHeld265)
       (try clear hHeld266)
       (try clear hHeld267)
       (try clear hHeld268)
       (try clear hHeld269)
       (try clear hHeld270)
       (try clear hHeld271)
       (try clear hHeld272)
       (try clear hHeld273)
       (try clear hHeld274)
       (try clear hHeld275)
       (try clear hHeld276)
       (try clear hHeld277)
       (try clear hHeld278)
       (try clear hHeld279)
       (try clear hHeld280)
       (try clear hHeld281)
       (try clear hHeld282)
       (try clear hHeld283)
       (try clear hHeld284)
       (try clear hHeld285)
       (try clear hHeld286)
       (try clear hHeld287)
       (try clear hHeld288)
       (try clear hHeld289)
       (try clear hHeld290)
       (try clear hHeld291)
       (try clear hHeld292)
       (try clear hHeld293)
       (try clear hHeld294)
       (try clear hHeld295)
       (try clear hHeld296)
       (try clear hHeld297)
       (try clear hHeld298)
       (try clear hHeld299)
       clear HS
       have HF := Lib.hid (HWZ.out.trans (Below.mono hp HWZ.out.size))
       have hp9 := Lib.hid (Kp.trans HKZ.out hp)
       by_cases hcv : cmpQ (x : Rat) r = 0
       ·have hq := cmpQ_zero.1 hcv
        have hb : (cmpQ (x : Rat) r != 0) = false := by rw [hcv]; rfl
        have HEQ := Lib.hid hq
        generalize cmpQ (x : Rat) r = cv at *
        clear hq hcv hp HF HWZ HBO9
        go_wp2_with fail
        go_roundw
        case rel => exact ⟨i + 1, by omega, by first | rfl | go_num, hp9.out, fun j hj => by
         by_cases hji : j < i
         ·exact HPV.out j hji
         ·obtain rfl : j = i := by omega
          rw [HXE.out, HRE.out]
          exact HEQ.out⟩
        case measure => simp [intOf]; omega
       ·have hlt9 : (x : Rat) < r := by
         rw [← HXE.out, ← HRE.out]
         exact HLW.out.2 HAL.out i (by have := HLB.out; omega) HPV.out (fun e => hcv (cmpQ_zero.2 (by rw [← HXE.out, ← HRE.out]; exact e)))
        have hneg : cmpQ (x : Rat) r = -1 := cmpQ_lt.2 hlt9
        have hb : (cmpQ (x : Rat) r != 0) = true := by rw [hneg]; rfl
        have hc2 : decide (cmpQ (x : Rat) r < 0) = true := by rw [hneg]; decide
        generalize cmpQ (x : Rat) r = cv at *
        clear hlt9 hcv hp HWZ HBO9 hneg
        go_wp2_with fail
        go_ret
        exact ⟨rfl, HF.out⟩
      ·obtain rfl : i = hn := by omega
       have HF := Lib.hid HWZ.out
       clear HKZ HWZ HBO9
       go_wp2
       go_ret
       exact ⟨rfl, HF.out⟩
  ·have hlt : v < (wf : Rat) := by
    have h1 := HOPT.out.1
    have h2 : v ≠ (wf : Rat) := fun e => hcv (cmpQ_zero.2 e)
    grind
   have hneg : cmpQ v (wf : Rat) = -1 := cmpQ_lt.2 hlt
   have hb : (cmpQ v (wf : Rat) != 0) = true := by rw [hneg]; rfl
   have hc2 : decide (cmpQ v (wf : Rat) < 0) = true := by rw [hneg]; decide
   generalize cmpQ v (wf : Rat) = cv at *
   have HF := Lib.hid (HV.out.trans (Below.mono hp HV.out.size))
   clear hlt hcv hp hneg
   go_wp2_with fail
   go_ret
   exact ⟨rfl, HF.out⟩
 ·generalize wfE os bs gs ts = x at *
  have dx : (x != 0) = true := by simpa using hz
  have h5 := HB4.out.trans (hb5.mono HB4.out.size)
  have HB5 := Lib.hid (h5.alloc h5.size (.cells #[.bool false, .slice none 0 0, .bool false, .slice none 0 0] 42))
  clear hz hb5 h5 HB4 HRA HWF
  go_wp2_with fail
  refine (sign_zero _).mono ?_
  rintro e w6 ⟨rfl, hb6⟩
  have HF := Lib.hid (HB5.out.trans (hb6.mono HB5.out.size))
  clear hb6 HB5
  go_wp2
  go_ret
  exact ⟨rfl, HF.out⟩

theorem copt25_any (A B G H : Option Addr) (n c m d gn gc hn hc : Nat) (os bs : List (List (Int × Int))) (eg et : List QE) (w : World) (h : CsAt w A n os) (h' : CsAt w B m bs) (hg : GRaw w G gn eg) (ht : GRaw w H hn et) : Calls Tryz.prog 9 #[.slice A n c, .slice B m d, .slice G gn gc, .slice H hn hc] w fun e w' => e = .returned (.bool true) ∧ Below w.heap.size w w' := by
 by_cases x1 : (longC os || longC bs) = true
 ·exact copt25_short A B G H n c m d gn gc hn hc os bs eg et w h h' hg ht (Or.inl x1)
 ·by_cases x2 : eg.any bigQ = true
  ·exact copt25_short A B G H n c m d gn gc hn hc os bs eg et w h h' hg ht (Or.inr (Or.inl x2))
  ·by_cases x3 : et.any bigQ = true
   ·exact copt25_short A B G H n c m d gn gc hn hc os bs eg et w h h' hg ht (Or.inr (Or.inr (Or.inl x3)))
   ·by_cases x4 : 30 < gn
    ·exact copt25_short A B G H n c m d gn gc hn hc os bs eg et w h h' hg ht (Or.inr (Or.inr (Or.inr (Or.inl x4))))
    ·by_cases x5 : 30 < hn
     ·exact copt25_short A B G H n c m d gn gc hn hc os bs eg et w h h' hg ht (Or.inr (Or.inr (Or.inr (Or.inr x5))))
     ·rw [Bool.not_eq_true] at x1 x2 x3
      exact copt25_yes A B G H n c m d gn gc hn hc os bs eg et w h h' hg ht x1 x2 x3 (by omega) (by omega)

end Go.Proofs.YtjajigkacccdgaaGreat
