/-
The walk of ClearMonotone, its main part. No statement of the seat is proved here; no conditions beyond those of each theorem.
-/
import Derived.Test.YtnjpojpfiijlfaaGreatD6
namespace Go.Proofs.YtnjpojpfiijlfaaGreat
set_option linter.unusedVariables false
set_option linter.unusedSimpArgs false
open Go.RowKit
open Wd

set_option maxRecDepth 100000 in
set_option maxHeartbeats 8000000 in
theorem cmono_main (A B : Option Addr) (n c m d : Nat) (os bs : List (List (Int × Int))) (Am : Option Addr) (nm cm : Nat) (more : List (Int × Int)) (w : World) (h : CsAt w A n os) (h' : CsAt w B m bs) (hm : StAt w Am nm more) (hlg : (longC os || longC bs) = false) (hl2 : longC [more] = false) (hck : ckB os bs = 0) : Calls Tryz.prog 12 #[.slice A n c, .slice B m d, .slice Am nm cm] w fun e w' => e = .returned (.bool true) ∧ Below w.heap.size w w' := by
  have HAW := Lib.hid (fun W => awake25_any W)
  have HL := Lib.hid (long25_any A B n c m d os bs w h h')
  obtain ⟨l1, l2⟩ := Bool.or_eq_false_iff.1 hlg
  have HM := Lib.hid (fun W (hW : Below w.heap.size w W) => may_any A B n c m d os bs W (h.below hW) (h'.below hW) (longC_small l1) (longC_small l2))
  rw [decide_eq_true hck] at HM
  rw [hlg] at HL
  have HL2E := Lib.hid hl2
  have HMO := Lib.hid hm
  obtain ⟨hn5, hm6⟩ : n ≤ 5 ∧ m ≤ 6 := by have := ckB_iff.1 hck; have := h.1; have := h'.1; omega
  have hnm20 : nm ≤ 20 := by
    have := (longC_no hl2).2 more (by simp)
    have := hm.1
    omega
  have HLA := Lib.hid h.1
  have HLB := Lib.hid h'.1
  have HX := Lib.hid h
  have HY := Lib.hid h'
  have HCK := Lib.hid hck
  have s1 : ∀ l ∈ os ++ [more], l.length ≤ 1000000000000 := fun l hl => by
    rcases List.mem_append.1 hl with hl | hl
    · exact longC_small l1 l hl
    · exact longC_small hl2 l hl
  have s2 : ∀ l ∈ bs ++ [more], l.length ≤ 1000000000000 := fun l hl => by
    rcases List.mem_append.1 hl with hl | hl
    · exact longC_small l2 l hl
    · exact longC_small hl2 l hl
  have HRA := Lib.hid (fun W (hW : Below w.heap.size w W) => run_all A B n c m d os bs W (h.below hW) (h'.below hW) (longC_small l1) (longC_small l2))
  have HRB := Lib.hid (fun W B1 d1 (hW : Below w.heap.size w W) (h1 : CsAt W B1 (m + 1) (bs ++ [more])) => run_all A B1 n c (m + 1) d1 os (bs ++ [more]) W (h.below hW) h1 (longC_small l1) s2)
  have HRC := Lib.hid (fun W A1 c1 (hW : Below w.heap.size w W) (h1 : CsAt W A1 (n + 1) (os ++ [more])) => run_all A1 B (n + 1) c1 m d (os ++ [more]) bs W h1 (h'.below hW) s1 (longC_small l2))
  have HKB := Lib.hid (fun W (hW : Below w.heap.size w W) => checkBid_any Am nm cm more W (hm.below hW) (by omega))
  have HKO := Lib.hid (fun W (hW : Below w.heap.size w W) => checkOffer_any Am nm cm more W (hm.below hW) (by omega))
  have t1 := three (x := ckB os (bs ++ [more])) (y := chk false more) (P := (m : Int) < 6) (by rw [ckB_bid hck, h'.1]; omega)
  have t2 := three (x := ckB (os ++ [more]) bs) (y := chk true more) (P := (n : Int) < 5) (by rw [ckB_offer hck, h.1]; omega)
  have T1 := Lib.hid t1
  have T2 := Lib.hid t2
  obtain ⟨ii, hii, hz0, hz1, hz2⟩ := info_parts info_steps
  have HI := Lib.hid hii
  have HZ0 := Lib.hid hz0
  have HZ1 := Lib.hid hz1
  have HZ2 := Lib.hid hz2
  clear h h' hlg hck l1 l2 hii hz0 hz1 hz2 hl2 hm s1 s2 t1 t2
  go_enter Tryz.func12, Tryz.ntmps12
  go_wp2_with fail
  refine HL.out.mono ?_
  rintro e w1 ⟨rfl, hb1⟩
  have HB1 := Lib.hid hb1
  clear hb1 HL
  go_wp2_with fail
  have k1 := (Kp.refl w1).alloc (.cells #[.slice Am nm cm] 29)
  have hcs1 : CsAt (w1.alloc (.cells #[.slice Am nm cm] 29)) (some ⟨w1.heap.size, 0, none⟩) 1 [more] := CsAt.one (Blk.new w1 29 #[.slice Am nm cm]) ((HMO.out.below HB1.out).below k1)
  have HBK := Lib.hid (HB1.out.trans (Below.mono k1 HB1.out.size))
  have HSO := Lib.hid (some25 (some ⟨w1.heap.size, 0, none⟩) 1 1 (w1.alloc (.cells #[.slice Am nm cm] 29)))
  have HL2 := Lib.hid (fun W (hW : Below (w1.alloc (.cells #[.slice Am nm cm] 29)).heap.size (w1.alloc (.cells #[.slice Am nm cm] 29)) W) => long24_any (some ⟨w1.heap.size, 0, none⟩) 1 1 [more] W (hcs1.below hW))
  rw [HL2E.out] at HL2
  clear k1 hcs1
  refine HSO.out.mono ?_
  rintro e w2 ⟨rfl, hb2⟩
  have HB2 := Lib.hid hb2
  clear hb2 HSO
  go_wp2_with fail
  refine (HL2.out w2 HB2.out).mono ?_
  rintro e w3 ⟨rfl, hb3⟩
  have hx3 := HB2.out.trans (hb3.mono HB2.out.size)
  have HB3 := Lib.hid (HBK.out.trans (hx3.mono HBK.out.size))
  clear hb3 hx3 HB2 HBK HL2 HB1
  go_wp2_with fail
  refine (HM.out w3 HB3.out).mono ?_
  rintro e w4 ⟨rfl, hb4⟩
  have HB4 := Lib.hid (HB3.out.trans (hb4.mono HB3.out.size))
  clear hb4 HM HB3
  go_wp2_with fail
  refine (HAW.out _).mono ?_
  rintro e w5 ⟨rfl, hb5⟩
  have HB5 := Lib.hid (HB4.out.trans (hb5.mono HB4.out.size))
  clear hb5 HB4 HAW
  go_wp2_with fail
  refine (HRA.out w5 HB5.out).mono ?_
  rintro e t1 ⟨z, p, wf, X1, nx1, cx1, Y1, ny1, cy1, rfl, hv, hb⟩
  have HV1 := Lib.hid hv
  have kx := (Kp.refl t1).alloc (.cells #[.int .i64 z, .int .i64 p, .int .i64 wf, .slice X1 nx1 cx1, .slice Y1 ny1 cy1] 92)
  have hbU := hb.trans (Below.mono kx hb.size)
  have hbx := Blk.new t1 92 #[.int .i64 z, .int .i64 p, .int .i64 wf, .slice X1 nx1 cx1, .slice Y1 ny1 cy1]
  have HBL1 := Lib.hid hbU
  have HBX1 := Lib.hid hbx
  clear hv hb kx hbU hbx
  rw [HCK.out]
  have HBU1 := Lib.hid (HB5.out.trans (HBL1.out.mono HB5.out.size))
  clear HRA HB5 HBL1
  obtain ⟨vsb, hvlb, hvsrcb, hvstb⟩ := (HY.out.below HBU1.out).src
  have hszb : (t1.alloc (.cells #[.int .i64 z, .int .i64 p, .int .i64 wf, .slice X1 nx1 cx1, .slice Y1 ny1 cy1] 92)).heap.size = t1.heap.size + 1 := by simp
  have q0b : Below (t1.alloc (.cells #[.int .i64 z, .int .i64 p, .int .i64 wf, .slice X1 nx1 cx1, .slice Y1 ny1 cy1] 92)).heap.size (t1.alloc (.cells #[.int .i64 z, .int .i64 p, .int .i64 wf, .slice X1 nx1 cx1, .slice Y1 ny1 cy1] 92)) ((t1.alloc (.cells #[.int .i64 z, .int .i64 p, .int .i64 wf, .slice X1 nx1 cx1, .slice Y1 ny1 cy1] 92)).alloc (.cells #[] 29)) := (Kp.refl (t1.alloc (.cells #[.int .i64 z, .int .i64 p, .int .i64 wf, .slice X1 nx1 cx1, .slice Y1 ny1 cy1] 92))).alloc (.cells #[] 29)
  have s0b := hvsrcb.below q0b
  rw [hszb] at q0b
  have o0b : Own (t1.alloc (.cells #[.int .i64 z, .int .i64 p, .int .i64 wf, .slice X1 nx1 cx1, .slice Y1 ny1 cy1] 92)).heap.size 29 1 ((t1.alloc (.cells #[.int .i64 z, .int .i64 p, .int .i64 wf, .slice X1 nx1 cx1, .slice Y1 ny1 cy1] 92)).alloc (.cells #[] 29)) (some ⟨(t1.alloc (.cells #[.int .i64 z, .int .i64 p, .int .i64 wf, .slice X1 nx1 cx1, .slice Y1 ny1 cy1] 92)).heap.size, 0, none⟩) 0 0 [] := Own.made (t1.alloc (.cells #[.int .i64 z, .int .i64 p, .int .i64 wf, .slice X1 nx1 cx1, .slice Y1 ny1 cy1] 92)) (Nat.le_refl _)
  rw [hszb] at o0b
  have HSZb := Lib.hid hszb
  clear hszb
  have HVSTb := Lib.hid hvstb
  have HVLb := Lib.hid hvlb
  clear hvstb hvsrcb
  go_wp2_with (first
    | (at_builtin
       go_loud (
       refine wpList_append_my rfl (base := t1.heap.size + 1) (e := 29) (size := 1) (bytes := 24) (.tmp 41) (.tmp 42) 22 rfl Tryz.underlying22 HI.out HZ0.out HZ1.out HZ2.out rfl (by decide) (xs := []) (news := vsb.map slv) rfl (by exact o0b) rfl (by exact s0b) (by simp only [maxLen]; omega) (by omega) (by simp) ?_
       intro B1b cb1b v1b hO1 hbb1 hk1
       simp only [Nat.zero_add, List.nil_append] at hO1 ⊢
       have p1b : Below (t1.heap.size + 1) (t1.alloc (.cells #[.int .i64 z, .int .i64 p, .int .i64 wf, .slice X1 nx1 cx1, .slice Y1 ny1 cy1] 92)) v1b := Below.trans q0b hbb1
       have o1b := hO1.keep ((Kp.refl v1b).alloc (.cells #[.slice Am nm cm] 29))
       have p2b : Below (t1.heap.size + 1) (t1.alloc (.cells #[.int .i64 z, .int .i64 p, .int .i64 wf, .slice X1 nx1 cx1, .slice Y1 ny1 cy1] 92)) (v1b.alloc (.cells #[.slice Am nm cm] 29)) := p1b.trans (Below.mono ((Kp.refl v1b).alloc _) (by have h9 := p1b.size; rw [HSZb.out] at h9; exact h9))
       have z2b : t1.heap.size + 1 ≤ (v1b.alloc (.cells #[.slice Am nm cm] 29)).heap.size := by rw [← HSZb.out]; exact p2b.size
       have m1b := Blk.new v1b 29 #[.slice Am nm cm]
       clear hbb1 hk1 hO1))
    | (at_builtin
       go_loud (
       refine wpList_append_my rfl (base := t1.heap.size + 1) (e := 29) (size := 1) (bytes := 24) (.tmp 43) (.tmp 45) 22 rfl Tryz.underlying22 HI.out HZ0.out HZ1.out HZ2.out rfl (by decide) (xs := vsb.map slv) (news := [.slice Am nm cm]) rfl (by exact o1b) rfl (by exact Blk.src m1b rfl (slv_one (Am, nm, cm))) (by simp only [maxLen]; omega) (by omega) (by exact z2b) ?_
       intro B2b cb2b v2b hO2b hbb2 hk2
       have p3b : Below (t1.heap.size + 1) (t1.alloc (.cells #[.int .i64 z, .int .i64 p, .int .i64 wf, .slice X1 nx1 cx1, .slice Y1 ny1 cy1] 92)) v2b := p2b.trans hbb2
       clear hbb2 hk2)))
  rw [← HSZb.out] at p3b hO2b
  have hWvb := HBU1.out.trans (p3b.mono HBU1.out.size)
  have hMb : CsAt v2b B2b (m + 1) (bs ++ [more]) := by
    have hO3 : Own (t1.alloc (.cells #[.int .i64 z, .int .i64 p, .int .i64 wf, .slice X1 nx1 cx1, .slice Y1 ny1 cy1] 92)).heap.size 29 1 v2b B2b (m + 1) cb2b ((vsb ++ [(Am, nm, cm)]).map slv) := by rw [List.map_append]; exact hO2b
    refine hO3.css (by simp [HLB.out]) fun j hj => ?_
    rw [get_snocC HLB.out j hj]
    split
    · rename_i hjn
      rw [List.getElem?_append_left (by rw [HVLb.out]; exact hjn)]
      exact (HVSTb.out j hjn).below p3b
    · obtain rfl : j = m := by omega
      rw [List.getElem?_append_right (by rw [HVLb.out]; exact Nat.le_refl _), HVLb.out]
      simp only [Nat.sub_self, List.getElem?_cons_zero, Option.getD_some]
      exact HMO.out.below hWvb
  have HMb := Lib.hid hMb
  have HPb := Lib.hid p3b
  have HWb := Lib.hid hWvb
  clear hMb p3b hWvb hO2b m1b o1b p2b p1b s0b o0b q0b hvlb HVSTb HVLb
  refine (HRB.out v2b B2b cb2b HWb.out HMb.out).mono ?_
  rintro e t2 ⟨z2, p2, wf2, X2, nx2, cx2, Y2, ny2, cy2, rfl, hv, hb⟩
  have HV2 := Lib.hid hv
  have kx := (Kp.refl t2).alloc (.cells #[.int .i64 z2, .int .i64 p2, .int .i64 wf2, .slice X2 nx2 cx2, .slice Y2 ny2 cy2] 92)
  have hbU := hb.trans (Below.mono kx hb.size)
  have hbx := Blk.new t2 92 #[.int .i64 z2, .int .i64 p2, .int .i64 wf2, .slice X2 nx2 cx2, .slice Y2 ny2 cy2]
  have HBL2 := Lib.hid hbU
  have HBX2 := Lib.hid hbx
  clear hv hb kx hbU hbx
  generalize hxb : ckB os (bs ++ [more]) = xb at *
  have HXB := Lib.hid hxb
  have HBU2 := Lib.hid (HWb.out.trans (HBL2.out.mono HWb.out.size))
  have HBX1 := Lib.hid ((HBX1.out.below HPb.out HBX1.out.lt).below HBL2.out (HBX1.out.below HPb.out HBX1.out.lt).lt)
  clear hxb HRB HBL2 HPb HWb HMb HBU1
  obtain ⟨vso, hvlo, hvsrco, hvsto⟩ := (HX.out.below HBU2.out).src
  have hszo : (t2.alloc (.cells #[.int .i64 z2, .int .i64 p2, .int .i64 wf2, .slice X2 nx2 cx2, .slice Y2 ny2 cy2] 92)).heap.size = t2.heap.size + 1 := by simp
  have q0o : Below (t2.alloc (.cells #[.int .i64 z2, .int .i64 p2, .int .i64 wf2, .slice X2 nx2 cx2, .slice Y2 ny2 cy2] 92)).heap.size (t2.alloc (.cells #[.int .i64 z2, .int .i64 p2, .int .i64 wf2, .slice X2 nx2 cx2, .slice Y2 ny2 cy2] 92)) ((t2.alloc (.cells #[.int .i64 z2, .int .i64 p2, .int .i64 wf2, .slice X2 nx2 cx2, .slice Y2 ny2 cy2] 92)).alloc (.cells #[] 29)) := (Kp.refl (t2.alloc (.cells #[.int .i64 z2, .int .i64 p2, .int .i64 wf2, .slice X2 nx2 cx2, .slice Y2 ny2 cy2] 92))).alloc (.cells #[] 29)
  have s0o := hvsrco.below q0o
  rw [hszo] at q0o
  have o0o : Own (t2.alloc (.cells #[.int .i64 z2, .int .i64 p2, .int .i64 wf2, .slice X2 nx2 cx2, .slice Y2 ny2 cy2] 92)).heap.size 29 1 ((t2.alloc (.cells #[.int .i64 z2, .int .i64 p2, .int .i64 wf2, .slice X2 nx2 cx2, .slice Y2 ny2 cy2] 92)).alloc (.cells #[] 29)) (some ⟨(t2.alloc (.cells #[.int .i64 z2, .int .i64 p2, .int .i64 wf2, .slice X2 nx2 cx2, .slice Y2 ny2 cy2] 92)).heap.size, 0, none⟩) 0 0 [] := Own.made (t2.alloc (.cells #[.int .i64 z2, .int .i64 p2, .int .i64 wf2, .slice X2 nx2 cx2, .slice Y2 ny2 cy2] 92)) (Nat.le_refl _)
  rw [hszo] at o0o
  have HSZo := Lib.hid hszo
  clear hszo
  have HVSTo := Lib.hid hvsto
  have HVLo := Lib.hid hvlo
  clear hvsto hvsrco
  go_wp2_with (first
    | (at_builtin
       go_loud (
       refine wpList_append_my rfl (base := t2.heap.size + 1) (e := 29) (size := 1) (bytes := 24) (.tmp 51) (.tmp 52) 22 rfl Tryz.underlying22 HI.out HZ0.out HZ1.out HZ2.out rfl (by decide) (xs := []) (news := vso.map slv) rfl (by exact o0o) rfl (by exact s0o) (by simp only [maxLen]; omega) (by omega) (by simp) ?_
       intro B1o cb1o v1o hO1 hbb1 hk1
       simp only [Nat.zero_add, List.nil_append] at hO1 ⊢
       have p1o : Below (t2.heap.size + 1) (t2.alloc (.cells #[.int .i64 z2, .int .i64 p2, .int .i64 wf2, .slice X2 nx2 cx2, .slice Y2 ny2 cy2] 92)) v1o := Below.trans q0o hbb1
       have o1o := hO1.keep ((Kp.refl v1o).alloc (.cells #[.slice Am nm cm] 29))
       have p2o : Below (t2.heap.size + 1) (t2.alloc (.cells #[.int .i64 z2, .int .i64 p2, .int .i64 wf2, .slice X2 nx2 cx2, .slice Y2 ny2 cy2] 92)) (v1o.alloc (.cells #[.slice Am nm cm] 29)) := p1o.trans (Below.mono ((Kp.refl v1o).alloc _) (by have h9 := p1o.size; rw [HSZo.out] at h9; exact h9))
       have z2o : t2.heap.size + 1 ≤ (v1o.alloc (.cells #[.slice Am nm cm] 29)).heap.size := by rw [← HSZo.out]; exact p2o.size
       have m1o := Blk.new v1o 29 #[.slice Am nm cm]
       clear hbb1 hk1 hO1))
    | (at_builtin
       go_loud (
       refine wpList_append_my rfl (base := t2.heap.size + 1) (e := 29) (size := 1) (bytes := 24) (.tmp 53) (.tmp 55) 22 rfl Tryz.underlying22 HI.out HZ0.out HZ1.out HZ2.out rfl (by decide) (xs := vso.map slv) (news := [.slice Am nm cm]) rfl (by exact o1o) rfl (by exact Blk.src m1o rfl (slv_one (Am, nm, cm))) (by simp only [maxLen]; omega) (by omega) (by exact z2o) ?_
       intro B2o cb2o v2o hO2o hbb2 hk2
       have p3o : Below (t2.heap.size + 1) (t2.alloc (.cells #[.int .i64 z2, .int .i64 p2, .int .i64 wf2, .slice X2 nx2 cx2, .slice Y2 ny2 cy2] 92)) v2o := p2o.trans hbb2
       clear hbb2 hk2)))
  rw [← HSZo.out] at p3o hO2o
  have hWvo := HBU2.out.trans (p3o.mono HBU2.out.size)
  have hMo : CsAt v2o B2o (n + 1) (os ++ [more]) := by
    have hO3 : Own (t2.alloc (.cells #[.int .i64 z2, .int .i64 p2, .int .i64 wf2, .slice X2 nx2 cx2, .slice Y2 ny2 cy2] 92)).heap.size 29 1 v2o B2o (n + 1) cb2o ((vso ++ [(Am, nm, cm)]).map slv) := by rw [List.map_append]; exact hO2o
    refine hO3.css (by simp [HLA.out]) fun j hj => ?_
    rw [get_snocC HLA.out j hj]
    split
    · rename_i hjn
      rw [List.getElem?_append_left (by rw [HVLo.out]; exact hjn)]
      exact (HVSTo.out j hjn).below p3o
    · obtain rfl : j = n := by omega
      rw [List.getElem?_append_right (by rw [HVLo.out]; exact Nat.le_refl _), HVLo.out]
      simp only [Nat.sub_self, List.getElem?_cons_zero, Option.getD_some]
      exact HMO.out.below hWvo
  have HMo := Lib.hid hMo
  have HPo := Lib.hid p3o
  have HWo := Lib.hid hWvo
  clear hMo p3o hWvo hO2o m1o o1o p2o p1o s0o o0o q0o hvlo HVSTo HVLo
  refine (HRC.out v2o B2o cb2o HWo.out HMo.out).mono ?_
  rintro e t3 ⟨z3, p3, wf3, X3, nx3, cx3, Y3, ny3, cy3, rfl, hv, hb⟩
  have HV3 := Lib.hid hv
  have kx := (Kp.refl t3).alloc (.cells #[.int .i64 z3, .int .i64 p3, .int .i64 wf3, .slice X3 nx3 cx3, .slice Y3 ny3 cy3] 92)
  have hbU := hb.trans (Below.mono kx hb.size)
  have hbx := Blk.new t3 92 #[.int .i64 z3, .int .i64 p3, .int .i64 wf3, .slice X3 nx3 cx3, .slice Y3 ny3 cy3]
  have HBL3 := Lib.hid hbU
  have HBX3 := Lib.hid hbx
  clear hv hb kx hbU hbx
  generalize hxo : ckB (os ++ [more]) bs = xo at *
  have HXO := Lib.hid hxo
  have HBU3 := Lib.hid (HWo.out.trans (HBL3.out.mono HWo.out.size))
  have HBX1 := Lib.hid ((HBX1.out.below HPo.out HBX1.out.lt).below HBL3.out (HBX1.out.below HPo.out HBX1.out.lt).lt)
  have HBX2 := Lib.hid ((HBX2.out.below HPo.out HBX2.out.lt).below HBL3.out (HBX2.out.below HPo.out HBX2.out.lt).lt)
  clear hxo HRC HBL3 HPo HWo HMo HBU2
  have HP1 := Lib.hid (fun (e : xb = 0) => by
    obtain ⟨xs, ys, S, D, hv⟩ := HV1.out HCK.out
    obtain ⟨xs', ys', S', D', hv'⟩ := HV2.out e
    exact RunV.bid HCK.out (HXB.out.trans e) hv hv')
  have HP2 := Lib.hid (fun (e : xo = 0) => by
    obtain ⟨xs, ys, S, D, hv⟩ := HV1.out HCK.out
    obtain ⟨xs', ys', S', D', hv'⟩ := HV3.out e
    exact RunV.offer HCK.out (HXO.out.trans e) hv hv')
  have HT1 := Lib.hid T1.out
  have HT2 := Lib.hid T2.out
  clear T1 T2 HV1 HV2 HV3 HXB HXO HI HZ0 HZ1 HZ2 HX HY
  generalize chk false more = yb at *
  generalize chk true more = yo at *
  have a1 := HT1.out
  have a2 := HT2.out
  clear HT1 HT2
  rcases a1 with ⟨d1, y1, x1, hz1⟩ | ⟨d1, y1, x1⟩ | ⟨d1, x1⟩
  · rcases a2 with ⟨d2, y2, x2, hz2⟩ | ⟨d2, y2, x2⟩ | ⟨d2, x2⟩
    · have nx1 : (xb != 0) = false := by rw [bne, x1]; rfl
      have nx2 : (xo != 0) = false := by rw [bne, x2]; rfl
      obtain ⟨le1, le2⟩ := HP1.out hz1
      obtain ⟨le3, le4⟩ := HP2.out hz2
      clear hz1
      clear hz2
      clear HP1 HP2
      go_wp2_with fail
      refine (HKB.out _ HBU3.out).mono ?_
      rintro e u1 ⟨rfl, hbu⟩
      have HBu := Lib.hid (HBU3.out.trans (hbu.mono HBU3.out.size))
      replace HBX1 := Lib.hid (HBX1.out.below hbu HBX1.out.lt)
      replace HBX2 := Lib.hid (HBX2.out.below hbu HBX2.out.lt)
      replace HBX3 := Lib.hid (HBX3.out.below hbu HBX3.out.lt)
      clear hbu HKB
      go_wp2_with fail
      refine (HKO.out _ HBu.out).mono ?_
      rintro e v1 ⟨rfl, hbv⟩
      have HBv := Lib.hid (HBu.out.trans (hbv.mono HBu.out.size))
      replace HBX1 := Lib.hid (HBX1.out.below hbv HBX1.out.lt)
      replace HBX2 := Lib.hid (HBX2.out.below hbv HBX2.out.lt)
      replace HBX3 := Lib.hid (HBX3.out.below hbv HBX3.out.lt)
      clear hbv HKO
      obtain ⟨⟨q0, q1, q2, q3, q4⟩, -⟩ := HBX1.out.five
      obtain ⟨⟨r0, r1, r2, r3, r4⟩, -⟩ := HBX2.out.five
      obtain ⟨⟨s0, s1, s2, s3, s4⟩, -⟩ := HBX3.out.five
      go_wp2
      go_ret
      exact ⟨rfl, HBv.out⟩
    · have nx1 : (xb != 0) = false := by rw [bne, x1]; rfl
      have nx2 : (xo != 0) = true := by rw [bne, x2]; rfl
      obtain ⟨le1, le2⟩ := HP1.out hz1
      clear hz1
      clear HP1 HP2
      go_wp2_with fail
      refine (HKB.out _ HBU3.out).mono ?_
      rintro e u1 ⟨rfl, hbu⟩
      have HBu := Lib.hid (HBU3.out.trans (hbu.mono HBU3.out.size))
      replace HBX1 := Lib.hid (HBX1.out.below hbu HBX1.out.lt)
      replace HBX2 := Lib.hid (HBX2.out.below hbu HBX2.out.lt)
      replace HBX3 := Lib.hid (HBX3.out.below hbu HBX3.out.lt)
      clear hbu HKB
      go_wp2_with fail
      refine (HKO.out _ HBu.out).mono ?_
      rintro e v1 ⟨rfl, hbv⟩
      have HBv := Lib.hid (HBu.out.trans (hbv.mono HBu.out.size))
      replace HBX1 := Lib.hid (HBX1.out.below hbv HBX1.out.lt)
      replace HBX2 := Lib.hid (HBX2.out.below hbv HBX2.out.lt)
      replace HBX3 := Lib.hid (HBX3.out.below hbv HBX3.out.lt)
      clear hbv HKO
      obtain ⟨⟨q0, q1, q2, q3, q4⟩, -⟩ := HBX1.out.five
      obtain ⟨⟨r0, r1, r2, r3, r4⟩, -⟩ := HBX2.out.five
      obtain ⟨⟨s0, s1, s2, s3, s4⟩, -⟩ := HBX3.out.five
      go_wp2
      go_ret
      exact ⟨rfl, HBv.out⟩
    · have nx1 : (xb != 0) = false := by rw [bne, x1]; rfl
      have nx2 : (xo != 0) = true := by rw [bne, x2]; rfl
      obtain ⟨le1, le2⟩ := HP1.out hz1
      clear hz1
      clear HP1 HP2
      go_wp2_with fail
      refine (HKB.out _ HBU3.out).mono ?_
      rintro e u1 ⟨rfl, hbu⟩
      have HBu := Lib.hid (HBU3.out.trans (hbu.mono HBU3.out.size))
      replace HBX1 := Lib.hid (HBX1.out.below hbu HBX1.out.lt)
      replace HBX2 := Lib.hid (HBX2.out.below hbu HBX2.out.lt)
      replace HBX3 := Lib.hid (HBX3.out.below hbu HBX3.out.lt)
      clear hbu HKB
      obtain ⟨⟨q0, q1, q2, q3, q4⟩, -⟩ := HBX1.out.five
      obtain ⟨⟨r0, r1, r2, r3, r4⟩, -⟩ := HBX2.out.five
      obtain ⟨⟨s0, s1, s2, s3, s4⟩, -⟩ := HBX3.out.five
      go_wp2
      go_ret
      exact ⟨rfl, HBu.out⟩
  · rcases a2 with ⟨d2, y2, x2, hz2⟩ | ⟨d2, y2, x2⟩ | ⟨d2, x2⟩
    · have nx1 : (xb != 0) = true := by rw [bne, x1]; rfl
      have nx2 : (xo != 0) = false := by rw [bne, x2]; rfl
      obtain ⟨le3, le4⟩ := HP2.out hz2
      clear hz2
      clear HP1 HP2
      go_wp2_with fail
      refine (HKB.out _ HBU3.out).mono ?_
      rintro e u1 ⟨rfl, hbu⟩
      have HBu := Lib.hid (HBU3.out.trans (hbu.mono HBU3.out.size))
      replace HBX1 := Lib.hid (HBX1.out.below hbu HBX1.out.lt)
      replace HBX2 := Lib.hid (HBX2.out.below hbu HBX2.out.lt)
      replace HBX3 := Lib.hid (HBX3.out.below hbu HBX3.out.lt)
      clear hbu HKB
      go_wp2_with fail
      refine (HKO.out _ HBu.out).mono ?_
      rintro e v1 ⟨rfl, hbv⟩
      have HBv := Lib.hid (HBu.out.trans (hbv.mono HBu.out.size))
      replace HBX1 := Lib.hid (HBX1.out.below hbv HBX1.out.lt)
      replace HBX2 := Lib.hid (HBX2.out.below hbv HBX2.out.lt)
      replace HBX3 := Lib.hid (HBX3.out.below hbv HBX3.out.lt)
      clear hbv HKO
      obtain ⟨⟨q0, q1, q2, q3, q4⟩, -⟩ := HBX1.out.five
      obtain ⟨⟨r0, r1, r2, r3, r4⟩, -⟩ := HBX2.out.five
      obtain ⟨⟨s0, s1, s2, s3, s4⟩, -⟩ := HBX3.out.five
      go_wp2
      go_ret
      exact ⟨rfl, HBv.out⟩
    · have nx1 : (xb != 0) = true := by rw [bne, x1]; rfl
      have nx2 : (xo != 0) = true := by rw [bne, x2]; rfl
      clear HP1 HP2
      go_wp2_with fail
      refine (HKB.out _ HBU3.out).mono ?_
      rintro e u1 ⟨rfl, hbu⟩
      have HBu := Lib.hid (HBU3.out.trans (hbu.mono HBU3.out.size))
      replace HBX1 := Lib.hid (HBX1.out.below hbu HBX1.out.lt)
      replace HBX2 := Lib.hid (HBX2.out.below hbu HBX2.out.lt)
      replace HBX3 := Lib.hid (HBX3.out.below hbu HBX3.out.lt)
      clear hbu HKB
      go_wp2_with fail
      refine (HKO.out _ HBu.out).mono ?_
      rintro e v1 ⟨rfl, hbv⟩
      have HBv := Lib.hid (HBu.out.trans (hbv.mono HBu.out.size))
      replace HBX1 := Lib.hid (HBX1.out.below hbv HBX1.out.lt)
      replace HBX2 := Lib.hid (HBX2.out.below hbv HBX2.out.lt)
      replace HBX3 := Lib.hid (HBX3.out.below hbv HBX3.out.lt)
      clear hbv HKO
      obtain ⟨⟨q0, q1, q2, q3, q4⟩, -⟩ := HBX1.out.five
      obtain ⟨⟨r0, r1, r2, r3, r4⟩, -⟩ := HBX2.out.five
      obtain ⟨⟨s0, s1, s2, s3, s4⟩, -⟩ := HBX3.out.five
      go_wp2
      go_ret
      exact ⟨rfl, HBv.out⟩
    · have nx1 : (xb != 0) = true := by rw [bne, x1]; rfl
      have nx2 : (xo != 0) = true := by rw [bne, x2]; rfl
      clear HP1 HP2
      go_wp2_with fail
      refine (HKB.out _ HBU3.out).mono ?_
      rintro e u1 ⟨rfl, hbu⟩
      have HBu := Lib.hid (HBU3.out.trans (hbu.mono HBU3.out.size))
      replace HBX1 := Lib.hid (HBX1.out.below hbu HBX1.out.lt)
      replace HBX2 := Lib.hid (HBX2.out.below hbu HBX2.out.lt)
      replace HBX3 := Lib.hid (HBX3.out.below hbu HBX3.out.lt)
      clear hbu HKB
      obtain ⟨⟨q0, q1, q2, q3, q4⟩, -⟩ := HBX1.out.five
      obtain ⟨⟨r0, r1, r2, r3, r4⟩, -⟩ := HBX2.out.five
      obtain ⟨⟨s0, s1, s2, s3, s4⟩, -⟩ := HBX3.out.five
      go_wp2
      go_ret
      exact ⟨rfl, HBu.out⟩
  · rcases a2 with ⟨d2, y2, x2, hz2⟩ | ⟨d2, y2, x2⟩ | ⟨d2, x2⟩
    · have nx1 : (xb != 0) = true := by rw [bne, x1]; rfl
      have nx2 : (xo != 0) = false := by rw [bne, x2]; rfl
      obtain ⟨le3, le4⟩ := HP2.out hz2
      clear hz2
      clear HP1 HP2
      go_wp2_with fail
      refine (HKO.out _ HBU3.out).mono ?_
      rintro e v1 ⟨rfl, hbv⟩
      have HBv := Lib.hid (HBU3.out.trans (hbv.mono HBU3.out.size))
      replace HBX1 := Lib.hid (HBX1.out.below hbv HBX1.out.lt)
      replace HBX2 := Lib.hid (HBX2.out.below hbv HBX2.out.lt)
      replace HBX3 := Lib.hid (HBX3.out.below hbv HBX3.out.lt)
      clear hbv HKO
      obtain ⟨⟨q0, q1, q2, q3, q4⟩, -⟩ := HBX1.out.five
      obtain ⟨⟨r0, r1, r2, r3, r4⟩, -⟩ := HBX2.out.five
      obtain ⟨⟨s0, s1, s2, s3, s4⟩, -⟩ := HBX3.out.five
      go_wp2
      go_ret
      exact ⟨rfl, HBv.out⟩
    · have nx1 : (xb != 0) = true := by rw [bne, x1]; rfl
      have nx2 : (xo != 0) = true := by rw [bne, x2]; rfl
      clear HP1 HP2
      go_wp2_with fail
      refine (HKO.out _ HBU3.out).mono ?_
      rintro e v1 ⟨rfl, hbv⟩
      have HBv := Lib.hid (HBU3.out.trans (hbv.mono HBU3.out.size))
      replace HBX1 := Lib.hid (HBX1.out.below hbv HBX1.out.lt)
      replace HBX2 := Lib.hid (HBX2.out.below hbv HBX2.out.lt)
      replace HBX3 := Lib.hid (HBX3.out.below hbv HBX3.out.lt)
      clear hbv HKO
      obtain ⟨⟨q0, q1, q2, q3, q4⟩, -⟩ := HBX1.out.five
      obtain ⟨⟨r0, r1, r2, r3, r4⟩, -⟩ := HBX2.out.five
      obtain ⟨⟨s0, s1, s2, s3, s4⟩, -⟩ := HBX3.out.five
      go_wp2
      go_ret
      exact ⟨rfl, HBv.out⟩
    · have nx1 : (xb != 0) = true := by rw [bne, x1]; rfl
      have nx2 : (xo != 0) = true := by rw [bne, x2]; rfl
      clear HP1 HP2
      obtain ⟨⟨q0, q1, q2, q3, q4⟩, -⟩ := HBX1.out.five
      obtain ⟨⟨r0, r1, r2, r3, r4⟩, -⟩ := HBX2.out.five
      obtain ⟨⟨s0, s1, s2, s3, s4⟩, -⟩ := HBX3.out.five
      go_wp2
      go_ret
      exact ⟨rfl, HBU3.out⟩

theorem cmono_any (A B : Option Addr) (n c m d : Nat) (os bs : List (List (Int × Int))) (Am : Option Addr) (nm cm : Nat) (more : List (Int × Int)) (w : World) (h : CsAt w A n os) (h' : CsAt w B m bs) (hm : StAt w Am nm more) : Calls Tryz.prog 12 #[.slice A n c, .slice B m d, .slice Am nm cm] w fun e w' => e = .returned (.bool true) ∧ Below w.heap.size w w' := by
  by_cases hx : (longC os || longC bs) = true ∨ longC [more] = true ∨ ckB os bs ≠ 0
  · exact cmono_short A B n c m d os bs Am nm cm more w h h' hm hx
  · exact cmono_main A B n c m d os bs Am nm cm more w h h' hm (by rw [← Bool.not_eq_true]; exact fun e => hx (Or.inl e)) (by rw [← Bool.not_eq_true]; exact fun e => hx (Or.inr (Or.inl e))) (Classical.not_not.1 fun e => hx (Or.inr (Or.inr e)))

end Go.Proofs.YtnjpojpfiijlfaaGreat
