/-
The statement EnergyUnitsOff: the walk. No statement of the seat is proved here; no conditions beyond those of each theorem.
-/
import Derived.Test.YthpldmlpononhaaGreatM2
import Derived.Deep.DeepCutAuto
namespace Go.Proofs.YthpldmlpononhaaGreat
set_option linter.unusedVariables false
set_option linter.unusedSimpArgs false
open Go.RowKit
open Wd
open En (Pc PU)

theorem info_unit : (Tryz.prog.info? 48).map (fun i => (i.zero, i.size, i.bytes)) = some (some (.agg #[.int .i64 0, .int .i64 0, .slice none 0 0, .int .i64 0, .int .i64 0, .int .i64 0, .int .i64 0, .int .i64 0, .int .i64 0]), 9, 88) := by kernel_rfl
theorem info_bool : (Tryz.prog.info? 4).map (fun i => (i.zero, i.size, i.bytes)) = some (some (.bool false), 1, 1) := by kernel_rfl
theorem bool_one {b : Bool} : ∀ u ∈ (#[.bool b] : Array Value).toList, u.oneCell' = true := by
  intro u hu
  simp at hu
  rw [hu]
  rfl
theorem unit_one {bus mn up dn start idle spin on : Int} {A' : Option Addr} {n' c' : Nat} : ∀ u ∈ (#[.int .i64 bus, .int .i64 mn, .slice A' n' c', .int .i64 up, .int .i64 dn, .int .i64 start, .int .i64 idle, .int .i64 spin, .int .i64 on] : Array Value).toList, u.oneCell' = true := by
  intro u hu
  simp at hu
  rcases hu with rfl | rfl | rfl | rfl | rfl | rfl | rfl | rfl | rfl <;> rfl

set_option maxRecDepth 100000 in
set_option maxHeartbeats 8000000 in
theorem off_good (A B : Option Addr) (n c m d : Nat) (us : List Un) (bs : List Bool) (f : Int) (bus mn up dn start idle spin on : Int) (A' : Option Addr) (n' c' : Nat) (l : List (Int × Int)) (k : Nat) (hk : k < 256) (w : World) (h : UsRaw w A n us) (h' : BsAt w B m bs) (hs : StAt w A' n' l) (hlg : longB us m = false) (hlg2 : longB [⟨bus, mn, l, up, dn, start, idle, spin, on⟩] 0 = false) (h5 : n < 5) (hc : uchk ⟨bus, mn, l, up, dn, start, idle, spin, on⟩ = 0) (he : echk us m = 0) (hnc : n ≤ c) (hmd : m ≤ d) : Calls Tryz.prog 15 #[.slice A n c, .slice B m d, .int .i64 f, .agg #[.int .i64 bus, .int .i64 mn, .slice A' n' c', .int .i64 up, .int .i64 dn, .int .i64 start, .int .i64 idle, .int .i64 spin, .int .i64 on], .int .u8 (k : Int)] w fun e w' => e = .returned (.bool true) ∧ Below w.heap.size w w' := by
  obtain rfl : n = m := by
    have e1 := (echk_ok he).2.1
    have e2 := h.1
    omega
  have T1 := fun W (hW : Below w.heap.size w W) => long28_any A B n c n d us bs W (h.below hW) h'.1
  rw [hlg] at T1
  have HL1 := Lib.hid T1
  have HAW := Lib.hid (fun W => awake28_any W)
  have HSS := Lib.hid hs
  obtain ⟨hU, hn30, hm30⟩ := h.at (m := n) hlg
  have hn20 : n' ≤ 20 := by
    unfold longB at hlg2
    simp [longL] at hlg2
    have := hs.1
    omega
  have HCK := Lib.hid (fun W (hW : Below w.heap.size w W) => ucheck_raw bus mn up dn start idle spin on A' n' c' l W (hs.below hW) (by omega))
  have HEC := Lib.hid (fun W (hW : Below w.heap.size w W) => echeck_any A B n c n d us bs W (hU.below hW) (h'.below hW) (by omega) (by omega))
  have d5 : decide ((5 : Int) ≤ (n : Int)) = false := by simp; omega
  rw [hc] at HCK
  rw [he] at HEC
  have HU := Lib.hid hU
  have HB' := Lib.hid h'
  have HE := Lib.hid he
  have HC := Lib.hid hc
  clear h h' hs T1 hlg hU hc he
  go_enter Tryz.func15, Tryz.ntmps15
  go_wp2_with fail
  have hB0 := Blk.new w 48 #[.int .i64 bus, .int .i64 mn, .slice A' n' c', .int .i64 up, .int .i64 dn, .int .i64 start, .int .i64 idle, .int .i64 spin, .int .i64 on]
  have hBW : Below w.heap.size w (w.alloc (.cells #[.int .i64 bus, .int .i64 mn, .slice A' n' c', .int .i64 up, .int .i64 dn, .int .i64 start, .int .i64 idle, .int .i64 spin, .int .i64 on] 48)) := (Below.refl _ _).alloc (Nat.le_refl _) _
  have hsz : (w.alloc (.cells #[.int .i64 bus, .int .i64 mn, .slice A' n' c', .int .i64 up, .int .i64 dn, .int .i64 start, .int .i64 idle, .int .i64 spin, .int .i64 on] 48)).heap.size = w.heap.size + 1 := by simp
  generalize w.alloc (.cells #[.int .i64 bus, .int .i64 mn, .slice A' n' c', .int .i64 up, .int .i64 dn, .int .i64 start, .int .i64 idle, .int .i64 spin, .int .i64 on] 48) = W at *
  have HSZ := Lib.hid hsz
  clear hsz
  refine (HL1.out W hBW).mono ?_
  rintro e w1 ⟨rfl, rfl⟩
  clear HL1
  obtain ⟨y0, y1, y2, y3, y4, y5, y6, y7, y8⟩ := hB0.nine
  have hU2 := one_us (Blk.new W 48 #[.int .i64 bus, .int .i64 mn, .slice A' n' c', .int .i64 up, .int .i64 dn, .int .i64 start, .int .i64 idle, .int .i64 spin, .int .i64 on]) ((HSS.out.below hBW).below ((Below.refl _ _).alloc (Nat.le_refl _) (.cells #[.int .i64 bus, .int .i64 mn, .slice A' n' c', .int .i64 up, .int .i64 dn, .int .i64 start, .int .i64 idle, .int .i64 spin, .int .i64 on] 48)))
  have T2 := long28_any (some ⟨W.heap.size, 0, none⟩) none 1 1 0 0 [⟨bus, mn, l, up, dn, start, idle, spin, on⟩] [] _ hU2 rfl
  rw [hlg2] at T2
  clear hlg2
  have HT2 := Lib.hid T2
  have hB1 := hB0.alloc (.cells #[.int .i64 bus, .int .i64 mn, .slice A' n' c', .int .i64 up, .int .i64 dn, .int .i64 start, .int .i64 idle, .int .i64 spin, .int .i64 on] 48)
  have hBV := hBW.trans (((Below.refl W.heap.size W).alloc (Nat.le_refl _) (.cells #[.int .i64 bus, .int .i64 mn, .slice A' n' c', .int .i64 up, .int .i64 dn, .int .i64 start, .int .i64 idle, .int .i64 spin, .int .i64 on] 48)).mono hBW.size)
  clear T2 hU2 hB0
  go_wp2_with fail
  refine HT2.out.mono ?_
  rintro e w1 ⟨rfl, rfl⟩
  clear HT2 y0 y1 y2 y3 y4 y5 y6 y7 y8
  have hBV := Lib.hid hBV
  generalize W.alloc (.cells #[.int .i64 bus, .int .i64 mn, .slice A' n' c', .int .i64 up, .int .i64 dn, .int .i64 start, .int .i64 idle, .int .i64 spin, .int .i64 on] 48) = V at *
  clear hBW HSZ
  obtain ⟨y0, y1, y2, y3, y4, y5, y6, y7, y8⟩ := hB1.nine
  go_wp2_with fail
  refine (HCK.out V hBV.out).mono ?_
  rintro e v1 ⟨rfl, hb1⟩
  have HB1 := Lib.hid (hBV.out.trans (hb1.mono hBV.out.size))
  have hB2 := hB1.below hb1 hB1.lt
  clear hb1 HCK y0 y1 y2 y3 y4 y5 y6 y7 y8 hB1
  go_wp2_with fail
  refine (HEC.out v1 HB1.out).mono ?_
  rintro e v2 ⟨rfl, hb2⟩
  have HB2 := Lib.hid (HB1.out.trans (hb2.mono HB1.out.size))
  have hB3 := hB2.below hb2 hB2.lt
  clear hb2 hB2 HEC
  go_wp2_with fail
  refine (HAW.out v2).mono ?_
  rintro e v3 ⟨rfl, hb3⟩
  have HB3 := Lib.hid (HB2.out.trans (hb3.mono HB2.out.size))
  have hB4 := hB3.below hb3 hB3.lt
  clear hb3 hB3 HAW
  obtain ⟨j, hj, hjn⟩ : ∃ j : Nat, (k : Int) % ((n : Int) + 1) = (j : Int) ∧ j ≤ n := ⟨k % (n + 1), by simp, by have := Nat.mod_lt k (show 0 < n + 1 by omega); omega⟩
  obtain ⟨iu, hiu, hz0, hz1, hz2⟩ := info_parts info_unit
  obtain ⟨A1, hsl1, hA1⟩ := slice_lo (P := Tryz.prog) Tryz.underlying22 hiu A n c j (by omega)
  obtain ⟨A2, hsl2, hA2⟩ := slice_hi (P := Tryz.prog) Tryz.underlying22 hiu A n c j hjn hnc
  rw [hz1] at hA2
  have hUd := HU.out.drop hjn hA2
  obtain ⟨r, hr⟩ : ∃ r, n - j = r := ⟨_, rfl⟩
  rw [hr] at hUd hsl2
  have hUt : UsAt w A1 j (us.take j) := by
    refine ⟨(HU.out.take hjn).1, fun h0 => ?_⟩
    obtain ⟨b, o, e, hh⟩ := (HU.out.take hjn).2 h0
    exact ⟨b, o, hA1 b o e, hh⟩
  obtain ⟨L1, hL1, hS1⟩ := hUt.src
  obtain ⟨L2, hL2, hS2⟩ := hUd.src
  have HL1 := Lib.hid hL1
  have HL2 := Lib.hid hL2
  have HS1 := Lib.hid (fun W (hW : Below w.heap.size w W) => hS1.below hW)
  have HS2 := Lib.hid (fun W (hW : Below w.heap.size w W) => hS2.below hW)
  have HI := Lib.hid hiu
  have HZ0 := Lib.hid hz0
  have HZ1 := Lib.hid hz1
  have HZ2 := Lib.hid hz2
  clear hUd hUt hL1 hL2 hS1 hS2 hiu hz0 hz1 hz2 hA1 hA2
  obtain ⟨y0, y1, y2, y3, y4, y5, y6, y7, y8⟩ := hB4.nine
  go_upto_region 4 with fail
  rw [hj]
  clear hj
  have HJR : Hid (j + 1 + r = n + 1) := Lib.hid (by omega)
  go_cut [12] (fun s wx => ∃ A3 c3, s = .slice A3 (n + 1) c3 ∧ Hid (Kp v3 wx ∧ UsAt wx A3 (n + 1) (ins ⟨bus, mn, l, up, dn, start, idle, spin, on⟩ j us)))
  case first =>
    have q0 := Kp.refl v3
    have q1 := q0.alloc (.cells #[] 48)
    have q2 := q1.alloc (.cells #[.int .i64 bus, .int .i64 mn, .slice A' n' c', .int .i64 up, .int .i64 dn, .int .i64 start, .int .i64 idle, .int .i64 spin, .int .i64 on] 48)
    have q3 := (q0.alloc (.cells #[.int .i64 bus, .int .i64 mn, .slice A' n' c', .int .i64 up, .int .i64 dn, .int .i64 start, .int .i64 idle, .int .i64 spin, .int .i64 on] 48)).alloc (.cells #[] 48)
    have o1 : Own v3.heap.size 48 9 (v3.alloc (.cells #[] 48)) (some ⟨v3.heap.size, 0, none⟩) 0 0 [] := Own.made v3 (Nat.le_refl _)
    have o2 := o1.keep ((Below.refl _ _).alloc (Nat.le_refl _) (.cells #[.int .i64 bus, .int .i64 mn, .slice A' n' c', .int .i64 up, .int .i64 dn, .int .i64 start, .int .i64 idle, .int .i64 spin, .int .i64 on] 48))
    have o3 : Own v3.heap.size 48 9 ((v3.alloc (.cells #[.int .i64 bus, .int .i64 mn, .slice A' n' c', .int .i64 up, .int .i64 dn, .int .i64 start, .int .i64 idle, .int .i64 spin, .int .i64 on] 48)).alloc (.cells #[] 48)) (some ⟨v3.heap.size + 1, 0, none⟩) 0 0 [] := by
      have := Own.made (base := v3.heap.size) (e := 48) (size := 9) (v3.alloc (.cells #[.int .i64 bus, .int .i64 mn, .slice A' n' c', .int .i64 up, .int .i64 dn, .int .i64 start, .int .i64 idle, .int .i64 spin, .int .i64 on] 48)) (by rw [World.size_alloc]; exact Nat.le_succ _)
      rwa [World.size_alloc] at this
    have m2 := Blk.new1 v3 (.cells #[] 48) 48 #[.int .i64 bus, .int .i64 mn, .slice A' n' c', .int .i64 up, .int .i64 dn, .int .i64 start, .int .i64 idle, .int .i64 spin, .int .i64 on]
    have m3 := (Blk.new v3 48 #[.int .i64 bus, .int .i64 mn, .slice A' n' c', .int .i64 up, .int .i64 dn, .int .i64 start, .int .i64 idle, .int .i64 spin, .int .i64 on]).alloc (.cells #[] 48)
    obtain ⟨s0, s1, s2, s3, s4, s5, s6, s7, s8⟩ := (q1.blk hB4).nine
    go_region_law (first
      | (refine step_append_my (base := v3.heap.size) (e := 48) (size := 9) (bytes := 88) (by rfl) (.tmp 57) (.tmp 60) 22 rfl Tryz.underlying22 HI.out HZ0.out HZ1.out HZ2.out rfl (by decide) (xs := []) (news := L1) rfl (by first | exact o1 | exact o2 | exact o3) rfl (HS1.out _ (HB3.out.trans (Below.mono (by first | exact q1.drew | exact q2.drew | exact q3.drew) HB3.out.size))) (by simp only [maxLen]; omega) (by omega) (Below.size (w := v3) (B := v3.heap.size) (by first | exact q1.drew | exact q2.drew | exact q3.drew)) ?_
         intro B1 cb1 w1 hO1 hb1 hk1
         have k1 : Kp v3 w1 := Below.trans (by first | exact q1.drew | exact q2.drew | exact q3.drew) hb1
         simp only [Nat.zero_add, List.nil_append] at hO1
         (first | have hM := Kept.blk hk1 m2 (by simp) | have hM := Kept.blk hk1 m3 (by simp) | skip)
         obtain ⟨t0, t1, t2, t3, t4, t5, t6, t7, t8⟩ := (k1.blk hB4).nine
         clear hb1 hk1)
      | (refine step_append_my (base := v3.heap.size) (e := 48) (size := 9) (bytes := 88) (by rfl) (.tmp 61) (.tmp 63) 22 rfl Tryz.underlying22 HI.out HZ0.out HZ1.out HZ2.out rfl (by decide) (xs := L1) (news := [.int .i64 bus, .int .i64 mn, .slice A' n' c', .int .i64 up, .int .i64 dn, .int .i64 start, .int .i64 idle, .int .i64 spin, .int .i64 on]) rfl (by first | exact hO1 | exact hO1.keep ((Below.refl _ _).alloc (Nat.le_refl _) _)) rfl (by first | exact Blk.src hM rfl unit_one | exact Blk.src (Blk.new w1 _ _) rfl unit_one) (by simp only [maxLen]; omega) (by omega) (Below.size (w := v3) (B := v3.heap.size) (by first | exact k1 | exact k1.alloc _)) ?_
         intro B2 cb2 w2 hO2 hb2 hk2
         have k2 : Kp v3 w2 := Below.trans (by first | exact k1 | exact k1.alloc _) hb2
         clear hb2 hk2)
      | (refine step_append_my (base := v3.heap.size) (e := 48) (size := 9) (bytes := 88) (by rfl) (.tmp 64) (.tmp 67) 22 rfl Tryz.underlying22 HI.out HZ0.out HZ1.out HZ2.out rfl (by decide) (xs := L1 ++ [.int .i64 bus, .int .i64 mn, .slice A' n' c', .int .i64 up, .int .i64 dn, .int .i64 start, .int .i64 idle, .int .i64 spin, .int .i64 on]) (news := L2) rfl (by exact hO2) rfl (HS2.out _ (HB3.out.trans (Below.mono k2 HB3.out.size))) (by simp only [maxLen]; omega) (by omega) (Below.size (w := v3) (B := v3.heap.size) k2) ?_
         intro B3 cb3 w3 hO3 hb3 hk3
         have k3 : Kp v3 w3 := Below.trans k2 hb3
         clear hb3 hk3))
    all_goals
      have hfin : UsAt w3 B3 (j + 1 + r) (ins ⟨bus, mn, l, up, dn, start, idle, spin, on⟩ j us) := by
        have e1 := HL1.out.below (HB3.out.trans (Below.mono k3 HB3.out.size))
        have e2 := HL2.out.below (HB3.out.trans (Below.mono k3 HB3.out.size))
        have e3 : UL w3 [⟨bus, mn, l, up, dn, start, idle, spin, on⟩] [.int .i64 bus, .int .i64 mn, .slice A' n' c', .int .i64 up, .int .i64 dn, .int .i64 start, .int .i64 idle, .int .i64 spin, .int .i64 on] := ⟨A', n', c', [], rfl, HSS.out.below (HB3.out.trans (Below.mono k3 HB3.out.size)), by omega, rfl⟩
        have e4 := (e1.app e3).app e2
        rw [ins_eq]
        refine Own.units hO3 ?_ ?_
        · simpa using e4
        · have := HU.out.1
          simp
          omega
      have HF := Lib.hid (And.intro k3 hfin)
      clear hfin
      go_wp2_with fail
      go_meet
      exact ⟨B3, cb3, by rw [HJR.out], by have h9 := HF.out; rw [HJR.out] at h9; exact h9⟩
  case rest =>
    obtain ⟨A3, c3, rfl, HV⟩ := hcut
    have HB4 := Lib.hid (HB3.out.trans (Below.mono HV.out.1 HB3.out.size))
    have HV2 := Lib.hid HV.out.2
    generalize wc = z1 at *
    clear HV HI HZ0 HZ1 HZ2 HS1 HS2 HL1 HL2 hsl1 hsl2 y0 y1 y2 y3 y4 y5 y6 y7 y8 hB4 HB3
    obtain ⟨ib, hib, hz0, hz1, hz2⟩ := info_parts info_bool
    obtain ⟨B1, hsb1, hB1⟩ := slice_lo (P := Tryz.prog) Tryz.underlying23 hib B n d j (by omega)
    obtain ⟨B2, hsb2, hB2⟩ := slice_hi (P := Tryz.prog) Tryz.underlying23 hib B n d j hjn hmd
    rw [hz1] at hB2
    have hUd := HB'.out.drop (A' := B2) hjn (by simpa using hB2)
    rw [hr] at hUd hsb2
    have hUt : BsAt w B1 j (bs.take j) := by
      refine ⟨(HB'.out.take hjn).1, fun h0 => ?_⟩
      obtain ⟨b, o, e, hh⟩ := (HB'.out.take hjn).2 h0
      exact ⟨b, o, hB1 b o e, hh⟩
    have HS1 := Lib.hid (fun W (hW : Below w.heap.size w W) => hUt.src.below hW)
    have HS2 := Lib.hid (fun W (hW : Below w.heap.size w W) => hUd.src.below hW)
    have HI := Lib.hid hib
    have HZ0 := Lib.hid hz0
    have HZ1 := Lib.hid hz1
    have HZ2 := Lib.hid hz2
    clear hUt hUd hib hz0 hz1 hz2 hB1 hB2
    go_upto_region 5 with fail
    go_cut [13] (fun s wx => ∃ B3 d3, s = .slice B3 (n + 1) d3 ∧ Hid (Kp z1 wx ∧ BsAt wx B3 (n + 1) (ins false j bs)))
    case first =>
      have q0 := Kp.refl z1
      have q1 := q0.alloc (.cells #[] 4)
      have q2 := q1.alloc (.cells #[.bool false] 4)
      have q3 := (q0.alloc (.cells #[.bool false] 4)).alloc (.cells #[] 4)
      have o1 : Own z1.heap.size 4 1 (z1.alloc (.cells #[] 4)) (some ⟨z1.heap.size, 0, none⟩) 0 0 [] := Own.made z1 (Nat.le_refl _)
      have o2 := o1.keep ((Below.refl _ _).alloc (Nat.le_refl _) (.cells #[.bool false] 4))
      have o3 : Own z1.heap.size 4 1 ((z1.alloc (.cells #[.bool false] 4)).alloc (.cells #[] 4)) (some ⟨z1.heap.size + 1, 0, none⟩) 0 0 [] := by
        have := Own.made (base := z1.heap.size) (e := 4) (size := 1) (z1.alloc (.cells #[.bool false] 4)) (by rw [World.size_alloc]; exact Nat.le_succ _)
        rwa [World.size_alloc] at this
      have m2 := Blk.new1 z1 (.cells #[] 4) 4 #[.bool false]
      have m3 := (Blk.new z1 4 #[.bool false]).alloc (.cells #[] 4)
      go_region_law (first
        | (refine step_append_my (base := z1.heap.size) (e := 4) (size := 1) (bytes := 1) (by rfl) (.tmp 69) (.tmp 72) 23 rfl Tryz.underlying23 HI.out HZ0.out HZ1.out HZ2.out rfl (by decide) (xs := []) rfl (by first | exact o1 | exact o2 | exact o3) rfl (HS1.out _ (HB4.out.trans (Below.mono (by first | exact q1.drew | exact q2.drew | exact q3.drew) HB4.out.size))) (by simp only [maxLen]; omega) (by omega) (Below.size (w := z1) (B := z1.heap.size) (by first | exact q1.drew | exact q2.drew | exact q3.drew)) ?_
           intro D1 cb1 w1 hO1 hb1 hk1
           have k1 : Kp z1 w1 := Below.trans (by first | exact q1.drew | exact q2.drew | exact q3.drew) hb1
           simp only [Nat.zero_add, List.nil_append] at hO1
           (first | have hM := Kept.blk hk1 m2 (by simp) | have hM := Kept.blk hk1 m3 (by simp) | skip)
           clear hb1 hk1)
        | (refine step_append_my (base := z1.heap.size) (e := 4) (size := 1) (bytes := 1) (by rfl) (.tmp 73) (.tmp 74) 23 rfl Tryz.underlying23 HI.out HZ0.out HZ1.out HZ2.out rfl (by decide) (xs := (bs.take j).map Value.bool) (news := [.bool false]) rfl (by first | exact hO1 | exact hO1.keep ((Below.refl _ _).alloc (Nat.le_refl _) _)) rfl (by first | exact Blk.src hM rfl bool_one | exact Blk.src (Blk.new w1 _ _) rfl bool_one) (by simp only [maxLen]; omega) (by omega) (Below.size (w := z1) (B := z1.heap.size) (by first | exact k1 | exact k1.alloc _)) ?_
           intro D2 cb2 w2 hO2 hb2 hk2
           have k2 : Kp z1 w2 := Below.trans (by first | exact k1 | exact k1.alloc _) hb2
           clear hb2 hk2)
        | (refine step_append_my (base := z1.heap.size) (e := 4) (size := 1) (bytes := 1) (by rfl) (.tmp 75) (.tmp 78) 23 rfl Tryz.underlying23 HI.out HZ0.out HZ1.out HZ2.out rfl (by decide) (xs := (bs.take j).map Value.bool ++ [.bool false]) rfl (by exact hO2) rfl (HS2.out _ (HB4.out.trans (Below.mono k2 HB4.out.size))) (by simp only [maxLen]; omega) (by omega) (Below.size (w := z1) (B := z1.heap.size) k2) ?_
           intro D3 cb3 w3 hO3 hb3 hk3
           have k3 : Kp z1 w3 := Below.trans k2 hb3
           clear hb3 hk3))
      all_goals
        have hfin : BsAt w3 D3 (j + 1 + r) (ins false j bs) := by
          rw [ins_eq]
          refine Own.bools (base := z1.heap.size) (e := 4) (c := cb3) ?_
          simpa using hO3
        have HF := Lib.hid (And.intro k3 hfin)
        clear hfin
        go_wp2_with fail
        go_meet
        exact ⟨D3, cb3, by rw [HJR.out], by have h9 := HF.out; rw [HJR.out] at h9; exact h9⟩
    case rest =>
      obtain ⟨B3, d3, rfl, HW⟩ := hcut
      have HB5 := Lib.hid (HB4.out.trans (Below.mono HW.out.1 HB4.out.size))
      have HWB := Lib.hid HW.out.2
      have HVU := Lib.hid (HV2.out.below HW.out.1)
      generalize wc = z2 at *
      clear HW HV2 HB4 HI HZ0 HZ1 HZ2 HS1 HS2 hsb1 hsb2
      have HLC1 := Lib.hid (fun W (hW : Below w.heap.size w W) => elc_any A B n c n d us bs f W (HU.out.below hW) (HB'.out.below hW) (by omega) (by omega))
      have HLC2 := Lib.hid (fun W (hW : Below z2.heap.size z2 W) => elc_any A3 B3 (n + 1) c3 (n + 1) d3 (ins ⟨bus, mn, l, up, dn, start, idle, spin, on⟩ j us) (ins false j bs) f W (HVU.out.below hW) (HWB.out.below hW) (by omega) (by omega))
      have HBL := Lib.hid HB'.out.1
      have HAE := Lib.hid (aerr_ins (k := j) (f := f) HE.out HBL.out HC.out h5)
      by_cases he : aerr us bs n f = 0
      · have HA1 := Lib.hid (ealloc_row A B n c n d us bs f z2 (HU.out.below HB5.out) (HB'.out.below HB5.out) (by omega) he)
        have HA2 := Lib.hid (fun W (hW : Below z2.heap.size z2 W) => ealloc_row A3 B3 (n + 1) c3 (n + 1) d3 (ins ⟨bus, mn, l, up, dn, start, idle, spin, on⟩ j us) (ins false j bs) f W (HVU.out.below hW) (HWB.out.below hW) (by omega) (by rw [HAE.out]; exact he))
        have HH := Lib.hid he
        clear he
        go_wp2_with fail
        refine HA1.out.mono ?_
        rintro e u1 ⟨g1, rfl, hR1, hl1, hO1, hg1, hb1⟩
        have K1 := Lib.hid hb1
        have R1 := Lib.hid (hR1.at hl1)
        have O1 := Lib.hid hO1
        clear hR1 hl1 hO1 hg1 hb1 HA1
        go_wp2_with fail
        refine (HA2.out u1 K1.out).mono ?_
        rintro e u2 ⟨g2, rfl, hR2, hl2, hO2, hg2, hb2⟩
        have K2 := Lib.hid (K1.out.trans (hb2.mono K1.out.size))
        have R12 := Lib.hid (R1.out.below hb2)
        rw [optR_ins HE.out HBL.out HC.out h5 O1.out] at hR2
        have hl3 : (ins (0 : Int) j (optR us bs f)).length = n + 1 := by rw [ins_len]; have := R1.out.1; omega
        have R2 := Lib.hid (hR2.at hl3)
        clear hR2 hl2 hO2 hg2 hb2 HA2 R1 K1 hl3
        go_wp2_with fail
        refine (HLC1.out u2 (HB5.out.trans (K2.out.mono HB5.out.size))).mono ?_
        rintro e u3 ⟨rfl, hp3, hb3⟩
        have K3 := Lib.hid (K2.out.trans (hb3.mono K2.out.size))
        have R13 := Lib.hid (R12.out.below hb3)
        have R3 := Lib.hid (R2.out.below hb3)
        have P3 := Lib.hid hp3
        clear hp3 hb3 HLC1 K2 R2 R12
        go_wp2_with fail
        refine (HLC2.out u3 K3.out).mono ?_
        rintro e u4 ⟨rfl, hp4, hb4⟩
        have K4 := Lib.hid (HB5.out.trans (Below.mono (K3.out.trans (hb4.mono K3.out.size)) HB5.out.size))
        have R14 := Lib.hid (R13.out.below hb4)
        have R4 := Lib.hid (R3.out.below hb4)
        rw [lcV_ins HE.out HBL.out HC.out h5 P3.out, HAE.out, HH.out]
        clear hp4 hb4 HLC2 K3 R3 R13 P3 HAE HH HE HC O1 HVU HWB HB5 HU HB'
        generalize optR us bs f = xs at *
        generalize lcV us bs n f = q at *
        go_wp2_with fail
        obtain ⟨ii, hii, hz0, hz1, hz2⟩ := info_parts info_int64
        obtain ⟨D1, hs1, hD1⟩ := slice_lo (P := Tryz.prog) Tryz.underlying65 hii (some ⟨g2, 0, none⟩) (n + 1) (n + 1) j (by omega)
        obtain ⟨D2, hs2, hD2⟩ := slice_hi (P := Tryz.prog) Tryz.underlying65 hii (some ⟨g2, 0, none⟩) (n + 1) (n + 1) (j + 1) (by omega) (Nat.le_refl _)
        rw [hz1] at hD2
        have hj1 : ((j + 1 : Nat) : Int) = (j : Int) + 1 := rfl
        rw [hj1] at hs2
        have er : n + 1 - (j + 1) = r := by omega
        have hId := R4.out.drop (A' := D2) (k := j + 1) (by omega) (by simpa using hD2)
        rw [er] at hId hs2
        have hIt : IsAt u4 D1 j ((ins 0 j xs).take j) := by
          refine ⟨(R4.out.take (by omega)).1, fun h0 => ?_⟩
          obtain ⟨b, o, e, hh⟩ := (R4.out.take (k := j) (by omega)).2 h0
          exact ⟨b, o, hD1 b o e, hh⟩
        have hxl : xs.length = n := R14.out.1
        have hsame : (ins 0 j xs).take j ++ (ins 0 j xs).drop (j + 1) = xs := by
          have e1 : (xs.take j).length = j := by simp; omega
          rw [ins_eq, List.take_left' e1, ← List.singleton_append, ← List.append_assoc, List.drop_left' (by simp; omega), List.take_append_drop]
        have hcell : u4.cell? ⟨g2, j, none⟩ = some (.int .i64 0) := by
          obtain ⟨b, o, e, _, hh⟩ := R4.out.2 (by omega)
          simp at e
          obtain ⟨rfl, rfl⟩ := e
          have := hh j (by omega)
          rw [Nat.zero_add] at this
          rw [this, ins_eq, List.getElem?_append_right (by simp; omega)]
          simp [show j - min j xs.length = 0 by omega]
        have HS1 := Lib.hid (fun W (hW : Below u4.heap.size u4 W) => hIt.src.below hW)
        have HS2 := Lib.hid (fun W (hW : Below u4.heap.size u4 W) => hId.src.below hW)
        have HSM := Lib.hid (fun (D : Option Addr) (cc : Nat) W (hW : Below u4.heap.size u4 W) (hD : IsAt W D (j + r) xs) => same_any D (some ⟨g1, 0, none⟩) (j + r) cc n n xs xs W hD (R14.out.below hW) (by omega))
        have HSA := Lib.hid hsame
        have HI := Lib.hid hii
        have HZ0 := Lib.hid hz0
        have HZ1 := Lib.hid hz1
        have HZ2 := Lib.hid hz2
        have hj2 : (j : Int) < (n : Int) + 1 := by omega
        have hj3 : IntKind.i64.wrap ((j : Int) + 1) = (j : Int) + 1 := IntWalk.i64_in _ (by omega)
        have q0 := Kp.refl u4
        have q1 := q0.alloc (.cells #[] 2)
        have o1 : Own u4.heap.size 2 1 (u4.alloc (.cells #[] 2)) (some ⟨u4.heap.size, 0, none⟩) 0 0 [] := Own.made u4 (Nat.le_refl _)
        have hgl : g2 < u4.heap.size := by
          obtain ⟨b, o, e, hh, _⟩ := R4.out.2 (by omega)
          simp at e
          omega
        have HSS := Lib.hid (fun W (hk : Kp u4 W) => And.intro ((Below.cell hk (p := ⟨g2, j, none⟩) hgl).trans hcell) hk)
        clear hii hz0 hz1 hz2 hD1 hD2 hj1 er hId hIt hxl hsame R4 R14 hcell hgl
        go_region_held3 (fun w' => w'.cell? ⟨g2, j, none⟩ = some (.int .i64 0) ∧ Kp u4 w')
          (first | exact HSS.out _ q0.drew | exact HSS.out _ q1.drew | exact HSS.out _ k3 | exact HSS.out _ k2 | exact HSS.out _ k1)
          (first
          | (refine step_append_my (base := u4.heap.size) (e := 2) (size := 1) (bytes := 8) (by first | rfl | simp [Region.wanted]) (.tmp 151) (.tmp 154) 65 rfl Tryz.underlying65 HI.out HZ0.out HZ1.out HZ2.out rfl (by decide) (xs := []) rfl (by exact o1) rfl (HS1.out _ (by exact q1.drew)) (by simp only [maxLen]; omega) (by omega) (Below.size (w := u4) (B := u4.heap.size) (by exact q1.drew)) ?_
             intro F1 cb1 w1 hO1 hb1 hk1
             have k1 : Kp u4 w1 := Below.trans (by exact q1.drew) hb1
             simp only [Nat.zero_add, List.nil_append] at hO1 ⊢
             clear hb1 hk1)
          | (refine step_append_my (base := u4.heap.size) (e := 2) (size := 1) (bytes := 8) (by first | rfl | simp [Region.wanted]) (.tmp 155) (.tmp 159) 65 rfl Tryz.underlying65 HI.out HZ0.out HZ1.out HZ2.out rfl (by decide) (xs := ((ins 0 j xs).take j).map (Value.int .i64)) rfl (by exact hO1) rfl (HS2.out _ k1) (by simp only [maxLen]; omega) (by omega) (Below.size (w := u4) (B := u4.heap.size) k1) ?_
             intro F2 cb2 w2 hO2 hb2 hk2
             have k2 : Kp u4 w2 := Below.trans k1 hb2
             have hI2 : IsAt w2 F2 (j + r) xs := by
               rw [← List.map_append, HSA.out] at hO2
               exact hO2.ints
             clear hb2 hk2 hO2)
          | (go_at_call 51; refine (HSM.out F2 cb2 w2 k2 hI2).mono ?_; rintro e w3 ⟨rfl, hb3⟩; have k3 : Kp u4 w3 := Below.trans k2 (hb3.mono (Below.size k2))))
        all_goals
          have HF := Lib.hid (K4.out.trans (Below.mono k3 K4.out.size))
          clear k1 k2 k3 hO1 hI2 HSM HS1 HS2 HSA HSS
          go_wp2
          go_ret
          exact ⟨by simp, HF.out⟩
      · have HA1 := Lib.hid (ealloc_no A B n c n d us bs f z2 (HU.out.below HB5.out) (HB'.out.below HB5.out) (by omega) (by omega) he)
        have HA2 := Lib.hid (fun W (hW : Below z2.heap.size z2 W) => ealloc_no A3 B3 (n + 1) c3 (n + 1) d3 (ins ⟨bus, mn, l, up, dn, start, idle, spin, on⟩ j us) (ins false j bs) f W (HVU.out.below hW) (HWB.out.below hW) (by omega) (by omega) (by rw [HAE.out]; exact he))
        rw [HAE.out] at HA2
        have hz : lcV us bs n f = 0 := by unfold lcV; rw [if_neg he]
        have hz2 : lcV (ins ⟨bus, mn, l, up, dn, start, idle, spin, on⟩ j us) (ins false j bs) (n + 1) f = 0 := by unfold lcV; rw [if_neg (by rw [HAE.out]; exact he)]
        rw [hz] at HLC1
        rw [hz2, HAE.out] at HLC2
        clear hz hz2 HAE
        generalize aerr us bs n f = x at *
        have dx : (x != 0) = true := by simpa using he
        clear he
        go_wp2_with fail
        refine HA1.out.mono ?_
        rintro e u1 ⟨rfl, hb1⟩
        go_wp2_with fail
        refine (HA2.out u1 hb1).mono ?_
        rintro e u2 ⟨rfl, hb2⟩
        have hb2 := hb1.trans (hb2.mono hb1.size)
        go_wp2_with fail
        refine (HLC1.out u2 (HB5.out.trans (hb2.mono HB5.out.size))).mono ?_
        rintro e u3 ⟨rfl, -, hb3⟩
        have hb3 := hb2.trans (hb3.mono hb2.size)
        go_wp2_with fail
        refine (HLC2.out u3 hb3).mono ?_
        rintro e u4 ⟨rfl, -, hb4⟩
        have hb4 := hb3.trans (hb4.mono hb3.size)
        have HF := Lib.hid (HB5.out.trans (hb4.mono HB5.out.size))
        clear HA1 HA2 HLC1 HLC2 hb1 hb2 hb3 hb4
        go_wp2
        go_ret
        exact ⟨rfl, HF.out⟩

end Go.Proofs.YthpldmlpononhaaGreat
