/-
The walk of StackAddition: where every error is told. No statement of the seat is proved here; no conditions beyond those of each theorem.
-/
import Derived.Test.YtnjpojpfiijlfaaGreatV6
namespace Go.Proofs.YtnjpojpfiijlfaaGreat
set_option linter.unusedVariables false
set_option linter.unusedSimpArgs false
open Go.RowKit
open Wd

theorem ckC_more {up : Bool} {ls : List (List (Int × Int))} {more : List (Int × Int)} (hn : ls.length < 16) : (ckC up (ls ++ [more])).2 = 0 ↔ (ckC up ls).2 = 0 ∧ (ckC up [more]).2 = 0 := by
  rw [ckC_iff, ckC_iff, ckC_iff]
  simp only [List.length_append, List.length_cons, List.length_nil, List.mem_append, List.mem_cons, List.not_mem_nil, or_false]
  constructor
  · rintro ⟨h1, h2⟩
    exact ⟨⟨by omega, fun l hl => h2 l (Or.inl hl)⟩, by omega, fun l hl => h2 l (Or.inr hl)⟩
  · rintro ⟨⟨h1, h2⟩, h3, h4⟩
    exact ⟨by omega, fun l hl => hl.elim (h2 l) (h4 l)⟩
theorem get_snoc {ls : List (List (Int × Int))} {more : List (Int × Int)} {n : Nat} (hn : ls.length = n) (j : Nat) (hj : j < n + 1) : (ls ++ [more])[j]?.getD [] = if j < n then ls[j]?.getD [] else more := by
  split
  · rw [List.getElem?_append_left (by omega)]
  · obtain rfl : j = n := by omega
    rw [List.getElem?_append_right (by omega), hn]
    simp

/-- What the walk has of the three stacks: s, t, one. -/
structure Sad (up : Bool) (n : Nat) (ls : List (List (Int × Int))) (more : List (Int × Int)) (u : World) (A1 : Option Addr) (m1 : Nat) (lv1 : List St.Lv) (A2 : Option Addr) (m2 : Nat) (lv2 : List St.Lv) (A3 : Option Addr) (m3 : Nat) (lv3 : List St.Lv) : Prop where
  at1 : LvAt u A1 m1 n lv1
  at2 : LvAt u A2 m2 (n + 1) lv2
  at3 : LvAt u A3 m3 1 lv3
  is1 : (ckC up ls).2 = 0 → St.IsLv up n (St.tri 0 ls) lv1 ∧ VL up n lv1
  is2 : (ckC up (ls ++ [more])).2 = 0 → St.IsLv up (n + 1) (St.tri 0 (ls ++ [more])) lv2 ∧ VL up (n + 1) lv2
  is3 : (ckC up [more]).2 = 0 → St.IsLv up 1 (St.tri 0 [more]) lv3 ∧ VL up 1 lv3

set_option maxRecDepth 100000 in
set_option maxHeartbeats 8000000 in
theorem sadd_main (A : Option Addr) (n c : Nat) (ls : List (List (Int × Int))) (bids : Bool) (Am : Option Addr) (nm cm : Nat) (more : List (Int × Int)) (w : World) (h : CsAt w A n ls) (hm : StAt w Am nm more) (hlg : longC ls = false) (hl2 : longC [more] = false) (hn : n < 16) : Calls Tryz.prog 7 #[.slice A n c, .bool bids, .slice Am nm cm] w fun e w' => e = .returned (.bool true) ∧ Below w.heap.size w w' := by
  have HAW := Lib.hid (fun W => awake24_any W)
  have HL1 := Lib.hid (long24_any A n c ls w h)
  have HL2 := Lib.hid (long_one Am nm cm more w hm)
  rw [hlg] at HL1
  rw [hl2] at HL2
  have HCS := Lib.hid h
  have HMO := Lib.hid hm
  have HLN := Lib.hid h.1
  have HSM := Lib.hid (longC_small hlg)
  have HSN := Lib.hid (longC_small hl2)
  have hnm20 : nm ≤ 20 := by
    have := (longC_no hl2).2 more (by simp)
    have := hm.1
    omega
  have d16 : decide ((16 : Int) ≤ (n : Int)) = false := by simp; omega
  have d16' : decide ((n : Int) < 16) = true := by simp; omega
  obtain ⟨ii, hii, hz0, hz1, hz2⟩ := info_parts info_steps
  have HI := Lib.hid hii
  have HZ0 := Lib.hid hz0
  have HZ1 := Lib.hid hz1
  have HZ2 := Lib.hid hz2
  clear h hm hlg hl2 hii hz0 hz1 hz2
  go_enter Tryz.func7, Tryz.ntmps7
  go_wp2_with fail
  refine HL1.out.mono ?_
  rintro e w1 ⟨rfl, hb1⟩
  have HB1 := Lib.hid hb1
  clear hb1 HL1
  go_wp2_with fail
  have HK1 := Lib.hid (HB1.out.trans (((Below.refl _ _).alloc (Nat.le_refl _) (.cells #[.slice Am nm cm] 29) : Below w1.heap.size w1 (w1.alloc (.cells #[.slice Am nm cm] 29))).mono HB1.out.size))
  refine (HL2.out w1 HB1.out).mono ?_
  rintro e w2 ⟨rfl, hb2⟩
  have HB2 := Lib.hid (HK1.out.trans (hb2.mono HK1.out.size))
  clear hb2 HL2 HK1 HB1
  go_wp2_with fail
  refine (HAW.out _).mono ?_
  rintro e w3 ⟨rfl, hb3⟩
  have HB3 := Lib.hid (HB2.out.trans (hb3.mono HB2.out.size))
  clear hb3 HB2 HAW
  have HS1 := Lib.hid (stacked_any A n c ls bids w3 (HCS.out.below HB3.out) HSM.out)
  go_wp2_with fail
  refine HS1.out.mono ?_
  rintro e u1 ⟨A1, m1, cap1, lv1, rfl, hL1, hV1, hZ1, hb4⟩
  have HB4 := Lib.hid (HB3.out.trans (hb4.mono HB3.out.size))
  have HA1 := Lib.hid hL1
  have HV1 := Lib.hid hV1
  have HZ1' := Lib.hid hZ1
  clear hL1 hV1 hZ1 hb4 HS1 HB3
  obtain ⟨vs, hvl, hvsrc, hvst⟩ := (HCS.out.below HB4.out).src
  have q0 := (Kp.refl u1).alloc (.cells #[] 29)
  have o0 : Own u1.heap.size 29 1 (u1.alloc (.cells #[] 29)) (some ⟨u1.heap.size, 0, none⟩) 0 0 [] := Own.made u1 (Nat.le_refl _)
  have s0 := hvsrc.below q0
  have HVST := Lib.hid hvst
  clear hvst hvsrc
  go_wp2_with (first
    | (at_builtin; refine wpList_append_my rfl (base := u1.heap.size) (e := 29) (size := 1) (bytes := 24) (.tmp 39) (.tmp 40) 22 rfl Tryz.underlying22 HI.out HZ0.out HZ1.out HZ2.out rfl (by decide) (xs := []) (news := vs.map slv) rfl (by exact o0) rfl (by exact s0) (by simp only [maxLen]; omega) (by omega) (by simp) ?_
       intro B1 cb1 v1 hO1 hbb1 hk1
       simp only [Nat.zero_add, List.nil_append] at hO1 ⊢
       have p1 : Below u1.heap.size u1 v1 := Below.trans q0 hbb1
       have o1 := hO1.keep ((Kp.refl v1).alloc (.cells #[.slice Am nm cm] 29))
       have p2 : Below u1.heap.size u1 (v1.alloc (.cells #[.slice Am nm cm] 29)) := p1.trans (Below.mono ((Kp.refl v1).alloc _) p1.size)
       have m1' := Blk.new v1 29 #[.slice Am nm cm]
       clear hbb1 hk1 hO1)
    | (at_builtin; refine wpList_append_my rfl (base := u1.heap.size) (e := 29) (size := 1) (bytes := 24) (.tmp 41) (.tmp 43) 22 rfl Tryz.underlying22 HI.out HZ0.out HZ1.out HZ2.out rfl (by decide) (xs := vs.map slv) (news := [.slice Am nm cm]) rfl (by exact o1) rfl (by exact Blk.src m1' rfl (slv_one (Am, nm, cm))) (by simp only [maxLen]; omega) (by omega) (by exact p2.size) ?_
       intro B2 cb2 v2 hO2 hbb2 hk2
       have p3 : Below u1.heap.size u1 v2 := p2.trans hbb2
       clear hbb2 hk2))
  have hWv := HB4.out.trans (p3.mono HB4.out.size)
  have hM : CsAt v2 B2 (n + 1) (ls ++ [more]) := by
    have hO3 : Own u1.heap.size 29 1 v2 B2 (n + 1) cb2 ((vs ++ [(Am, nm, cm)]).map slv) := by rw [List.map_append]; exact hO2
    refine hO3.css (by simp [HLN.out]) fun j hj => ?_
    rw [get_snoc HLN.out j hj]
    split
    · rename_i hjn
      rw [List.getElem?_append_left (by omega)]
      exact (HVST.out j hjn).below p3
    · obtain rfl : j = n := by omega
      rw [List.getElem?_append_right (by omega), hvl]
      simp only [Nat.sub_self, List.getElem?_cons_zero, Option.getD_some]
      exact HMO.out.below hWv
  have hMs : ∀ l ∈ ls ++ [more], l.length ≤ 1000000000000 := fun l hl => by
    rcases List.mem_append.1 hl with hl | hl
    · exact HSM.out l hl
    · exact HSN.out l hl
  have HS2 := Lib.hid (stacked_any B2 (n + 1) cb2 (ls ++ [more]) bids v2 hM hMs)
  have HP3 := Lib.hid p3
  clear hM hMs hO2 p1 p2 p3 hWv m1' o0 o1 s0 q0 hvl HVST
  refine HS2.out.mono ?_
  rintro e u2 ⟨A2, m2, cap2, lv2, rfl, hL2, hV2, hZ2, hb5⟩
  have hq5 := HP3.out.trans (hb5.mono HP3.out.size)
  have HA1 := Lib.hid (HA1.out.below hq5)
  have HB5 := Lib.hid (HB4.out.trans (hq5.mono HB4.out.size))
  have HA2 := Lib.hid hL2
  have HV2 := Lib.hid hV2
  have HZ2' := Lib.hid hZ2
  clear hL2 hV2 hZ2 hb5 HS2 hq5 HP3 HB4
  have HS3 := Lib.hid (stacked_any (some ⟨u2.heap.size, 0, none⟩) 1 1 [more] bids (u2.alloc (.cells #[.slice Am nm cm] 29)) (CsAt.one (Blk.new u2 29 #[.slice Am nm cm]) ((HMO.out.below HB5.out).below ((Kp.refl u2).alloc _))) HSN.out)
  go_wp2_with fail
  refine HS3.out.mono ?_
  rintro e u3 ⟨A3, m3, cap3, lv3, rfl, hL3, hV3, hZ3, hb6⟩
  have hq6 : Below u2.heap.size u2 u3 := Below.trans ((Kp.refl u2).alloc (.cells #[.slice Am nm cm] 29)) (hb6.mono (by simp))
  have HB6 := Lib.hid (HB5.out.trans (hq6.mono HB5.out.size))
  have hckm := ckC_more (up := !bids) (ls := ls) (more := more) (by rw [HLN.out]; exact hn)
  have HSD := Lib.hid (show Sad (!bids) n ls more u3 A1 m1 lv1 A2 m2 lv2 A3 m3 lv3 from ⟨HA1.out.below hq6, HA2.out.below hq6, hL3, HV1.out, HV2.out, hV3⟩)
  clear hL3 hV3 hZ3 hb6 HS3 HB5 hq6 HA1 HA2 HV1 HV2 HZ1' HZ2' HCS
  generalize (!bids) = up at *
  generalize hxe : (ckC up ls).2 = x at *
  generalize hye : (ckC up (ls ++ [more])).2 = y at *
  generalize hze : (ckC up [more]).2 = z at *
  have HE := Lib.hid (And.intro hxe (And.intro hye hze))
  clear hxe hye hze
  by_cases hx : x = 0
  · by_cases hz : z = 0
    · subst hx
      subst hz
      obtain rfl : y = 0 := hckm.2 ⟨rfl, rfl⟩
      obtain ⟨hxe, hye, hze⟩ := HE.out
      have hA := HSD.out
      have h1 := hA.is1 hxe
      have h2 := hA.is2 hye
      have h3 := hA.is3 hze
      have hck3 : chk up more = 0 := (ckC_iff.1 hze).2 more (by simp)
      have hone := h3.1.only (St.one_levels hck3)
      have hml := St.more_levels HLN.out h1.1 h2.1 h3.1
      have hm3 : m3 = nm := by rw [← hA.at3.1, hone, List.length_map]; exact HMO.out.1
      subst hm3
      have hm48 : m1 ≤ 48 ∧ m2 ≤ 48 ∧ m3 ≤ 48 := ⟨by rw [← hA.at1.1]; exact h1.2.len, by rw [← hA.at2.1]; exact h2.2.len, by rw [← hA.at3.1]; exact h3.2.len⟩
      obtain ⟨hm1, hm2, hm3⟩ := hm48
      have HH1 := Lib.hid h1.2
      have HH2 := Lib.hid h2.2
      have HH3 := Lib.hid h3.2
      have HONE := Lib.hid hone
      have HML := Lib.hid hml
      have HT1 := Lib.hid (fun W (hW : Below u3.heap.size u3 W) => total_ok up A1 m1 n cap1 lv1 W (hA.at1.below hW) h1.2)
      have HT2 := Lib.hid (fun W (hW : Below u3.heap.size u3 W) => total_ok up A2 m2 (n + 1) cap2 lv2 W (hA.at2.below hW) h2.2)
      have HT3 := Lib.hid (fun W (hW : Below u3.heap.size u3 W) => total_ok up A3 m3 1 cap3 lv3 W (hA.at3.below hW) h3.2)
      have HQ1 := Lib.hid (fun W p (hW : Below u3.heap.size u3 W) => at24_any A1 m1 n cap1 lv1 p W (hA.at1.below hW) hm1 h1.2.qty)
      have HQ3 := Lib.hid (fun W p (hW : Below u3.heap.size u3 W) => at24_any A3 m3 1 cap3 lv3 p W (hA.at3.below hW) hm3 h3.2.qty)
      have HTB := Lib.hid (And.intro (tot_bd lv1 h1.2.qty) (And.intro (tot_bd lv2 h2.2.qty) (tot_bd lv3 h3.2.qty)))
      have HAB := Lib.hid (fun p => And.intro (atLv_bd lv1 p h1.2.qty) (atLv_bd lv3 p h3.2.qty))
      have HLL := Lib.hid (And.intro hA.at1.1 (And.intro hA.at2.1 hA.at3.1))
      have HMO3 := Lib.hid (HMO.out.below HB6.out)
      have HAT2 := Lib.hid hA.at2
      have HAT3 := Lib.hid hA.at3
      clear hA h1 h2 h3 hck3 hone hml hxe hye hze hckm HSD HMO
      go_wp2_with fail
      go_loopw [13] (fun t wr => ∃ k : Nat, k ≤ m3 ∧ t = .int .i64 k ∧ Hid (Below u3.heap.size u3 wr)) (fun t _ => m3 - (intOf t).toNat)
      case atStart => exact ⟨0, Nat.zero_le _, rfl, Below.refl _ _⟩
      case round =>
        obtain ⟨k, hk, rfl, hBV⟩ := hrel
        obtain ⟨wv, rfl⟩ : ∃ v, v = wr := ⟨_, rfl⟩
        by_cases hlt2 : k < m3
        · obtain ⟨b1, o1, rfl, hb1, hc1⟩ := HAT3.out.2 (by omega)
          obtain ⟨b2, o2, rfl, hb2, hc2⟩ := HMO3.out.2.2 (by omega)
          obtain ⟨P1, d1, ⟨y0, y1, y2⟩, -⟩ := hc1 k hlt2
          obtain ⟨z0, z1⟩ := hc2 k hlt2
          have hkl : k < more.length := by have := HMO3.out.1; omega
          have e1 : lv3[k]?.getD Lv0 = ((more[k]?.getD (0, 0)).2, (more[k]?.getD (0, 0)).1, [(more[k]?.getD (0, 0)).1]) := by
            rw [HONE.out, List.getElem?_map, List.getElem?_eq_getElem hkl]
            rfl
          rw [e1] at y0 y1
          simp only at y0 y1
          generalize (more[k]?.getD (0, 0)).1 = r at *
          generalize (more[k]?.getD (0, 0)).2 = p at *
          replace y0 := (hBV.out.cell (p := ⟨b1, o1 + k * 3, none⟩) hb1).trans y0
          replace y1 := (hBV.out.cell (p := ⟨b1, o1 + k * 3 + 1, none⟩) hb1).trans y1
          replace y2 := (hBV.out.cell (p := ⟨b1, o1 + k * 3 + 2, none⟩) hb1).trans y2
          replace z0 := (hBV.out.cell (p := ⟨b2, o2 + k * 2, none⟩) hb2).trans z0
          replace z1 := (hBV.out.cell (p := ⟨b2, o2 + k * 2 + 1, none⟩) hb2).trans z1
          have k1 : (0 : Int) ≤ (k : Int) := by omega
          have k2 : (k : Int) < (m3 : Int) := by omega
          clear hc1 hc2 e1 hkl
          go_wp2_with fail
          go_quiet (fail)
          go_wp2
          go_roundw
          case rel => exact ⟨k + 1, by omega, by go_num, below_drewN hBV.out _⟩
          case measure => simp [intOf]; omega
        · obtain rfl : k = m3 := by omega
          clear HAT3 HMO3
          go_wp2_with fail
          go_loopw [14] (fun t wr => ∃ j : Nat, j ≤ m2 ∧ t = .int .i64 j ∧ Hid (Below u3.heap.size u3 wr)) (fun t _ => m2 - (intOf t).toNat)
          case atStart => exact ⟨0, Nat.zero_le _, rfl, hBV.out⟩
          case round =>
            obtain ⟨j, hj, rfl, hBX⟩ := hrel
            by_cases hlt3 : j < m2
            · obtain ⟨b2, o2, rfl, hb2, hc2⟩ := HAT2.out.2 (by omega)
              obtain ⟨P2, d2, ⟨z0, z1, z2⟩, hI2⟩ := hc2 j hlt3
              obtain ⟨e1, f1, rfl, he1, hs1⟩ := hI2.2 (by omega)
              have hs := hs1 n (by omega)
              have hjl : j < lv2.length := by have := HLL.out.2.1; omega
              obtain ⟨g1, g2⟩ := HML.out.1 j hjl
              rw [g1] at z1
              rw [g2] at hs
              generalize (lv2[j]?.getD Lv0).1 = p at *
              have hab := HAB.out p
              have hll := HLL.out
              have q1 := fun W hW => HQ1.out W p hW
              have q3 := fun W hW => HQ3.out W p hW
              generalize St.atLv lv1 p = a1 at *
              generalize St.atLv lv3 p = a3 at *
              have xw : IntKind.i64.wrap (a1 + a3) = a1 + a3 := IntWalk.i64_in _ (by omega)
              have xn : IntKind.i64.wrap ((n : Int) + 1) = (n : Int) + 1 := IntWalk.i64_in _ (by omega)
              have nn : (((n + 1 : Nat) : Int) != (n : Int) + 1) = false := by simp
              have hbx := hBX.out.size
              have w0 := fun s : KW wr => (Below.cell s.h (p := ⟨b2, o2 + j * 3, none⟩) (Nat.lt_of_lt_of_le hb2 hbx)).trans ((hBX.out.cell (p := ⟨b2, o2 + j * 3, none⟩) hb2).trans z0)
              have w1 := fun s : KW wr => (Below.cell s.h (p := ⟨b2, o2 + j * 3 + 1, none⟩) (Nat.lt_of_lt_of_le hb2 hbx)).trans ((hBX.out.cell (p := ⟨b2, o2 + j * 3 + 1, none⟩) hb2).trans z1)
              have w2 := fun s : KW wr => (Below.cell s.h (p := ⟨b2, o2 + j * 3 + 2, none⟩) (Nat.lt_of_lt_of_le hb2 hbx)).trans ((hBX.out.cell (p := ⟨b2, o2 + j * 3 + 2, none⟩) hb2).trans z2)
              have w3 := fun s : KW wr => (Below.cell s.h (p := ⟨e1, f1 + n, none⟩) (Nat.lt_of_lt_of_le he1 hbx)).trans ((hBX.out.cell (p := ⟨e1, f1 + n, none⟩) he1).trans hs)
              have j1 : (0 : Int) ≤ (j : Int) := by omega
              have j2 : (j : Int) < (m2 : Int) := by omega
              have n1 : (0 : Int) ≤ (n : Int) := by omega
              have n2 : (n : Int) < ((n + 1 : Nat) : Int) := by omega
              have n3 : (n : Int) < (n : Int) + 1 := by omega
              have Q1 := Lib.hid q1
              have Q3 := Lib.hid q3
              clear hc2 hs1 hI2 g1 g2 hab hll q1 q3 z0 z1 z2 hs hbx
              go_wp2_with fail
              try simp only [List.append_eq, List.cons_append, List.nil_append]
              refine wp_region_kw (W := wr) (by kernel_rfl) (by kernel_rfl) ?_
              repeat (go_big_quiet_step ((first | (go_at_call_of 48 (Value.slice A1 m1 cap1); exact kw_call (Q1.out _ (hBX.out.trans (Below.mono (KW.h _) hBX.out.size)))) | (go_at_call_of 48 (Value.slice A3 k cap3); exact kw_call (Q3.out _ (hBX.out.trans (Below.mono (KW.h _) hBX.out.size)))))))
              refine wpQuiet_nil ?_
              intro v9 hw9
              have hv9 : Kp wr v9 := by obtain ⟨s, rfl⟩ := hw9; exact s.h
              have HV9 := Lib.hid (hBX.out.trans (Below.mono hv9 hBX.out.size))
              clear hw9 hv9 w0 w1 w2 w3 Q1 Q3
              go_wp2
              go_roundw
              case rel => exact ⟨j + 1, by omega, by go_num, HV9.out⟩
              case measure => simp [intOf]; omega
            · obtain rfl : j = m2 := by omega
              have hT := HML.out.2
              have hTB := HTB.out
              have hLL := HLL.out
              generalize totI lv1 = t1 at *
              generalize totI lv2 = t2 at *
              generalize totI lv3 = t3 at *
              have xw : IntKind.i64.wrap (t1 + t3) = t1 + t3 := IntWalk.i64_in _ (by omega)
              subst hT
              clear hTB hLL HAB HTB HML HLL
              go_wp2_with fail
              refine (HT2.out _ hBX.out).mono ?_
              rintro e x1 ⟨rfl, hx1⟩
              have HX1 := Lib.hid (hBX.out.trans (hx1.mono hBX.out.size))
              clear hx1
              go_wp2_with fail
              refine (HT1.out _ HX1.out).mono ?_
              rintro e x2 ⟨rfl, hx2⟩
              have HX2 := Lib.hid (HX1.out.trans (hx2.mono HX1.out.size))
              clear hx2
              go_wp2_with fail
              refine (HT3.out _ HX2.out).mono ?_
              rintro e x3 ⟨rfl, hx3⟩
              have HX3 := Lib.hid (HX2.out.trans (hx3.mono HX2.out.size))
              clear hx3
              go_wp2
              go_ret
              exact ⟨by simp, HB6.out.trans (HX3.out.mono HB6.out.size)⟩
    · have dz : (z != 0) = true := by simpa using hz
      have dx : (x != 0) = false := by simpa using hx
      have dy : (y != 0) = true := by simpa using fun e => hz (hckm.1 e).2
      clear hckm
      go_wp2
      go_ret
      exact ⟨rfl, HB6.out⟩
  · have dx : (x != 0) = true := by simpa using hx
    have dy : (y != 0) = true := by simpa using fun e => hx (hckm.1 e).1
    clear hckm
    go_wp2
    go_ret
    exact ⟨rfl, HB6.out⟩

theorem sadd_any (A : Option Addr) (n c : Nat) (ls : List (List (Int × Int))) (bids : Bool) (Am : Option Addr) (nm cm : Nat) (more : List (Int × Int)) (w : World) (h : CsAt w A n ls) (hm : StAt w Am nm more) : Calls Tryz.prog 7 #[.slice A n c, .bool bids, .slice Am nm cm] w fun e w' => e = .returned (.bool true) ∧ Below w.heap.size w w' := by
  by_cases hx : longC ls = true ∨ longC [more] = true ∨ 16 ≤ n
  · exact sadd_short A n c ls bids Am nm cm more w h hm hx
  · have h1 : longC ls = false := by rw [← Bool.not_eq_true]; exact fun e => hx (Or.inl e)
    have h2 : longC [more] = false := by rw [← Bool.not_eq_true]; exact fun e => hx (Or.inr (Or.inl e))
    exact sadd_main A n c ls bids Am nm cm more w h hm h1 h2 (by rcases Nat.lt_or_ge n 16 with h | h; exact h; exact absurd (Or.inr (Or.inr h)) hx)

end Go.Proofs.YtnjpojpfiijlfaaGreat
