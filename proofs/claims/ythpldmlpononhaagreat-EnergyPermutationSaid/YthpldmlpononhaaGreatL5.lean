/-
Cost of package energy by one value; the statement EnergyOptimality: the walk. No statement of the seat is proved here; no conditions beyond those of each theorem.
-/
import Derived.Test.YthpldmlpononhaaGreatL3
namespace Go.Proofs.YthpldmlpononhaaGreat
set_option linter.unusedVariables false
set_option linter.unusedSimpArgs false
open Go.RowKit
open Wd
open En (Pc PU)

open Classical in
/-- The error and the value of Cost. -/
noncomputable def ccE (us : List Un) (bs : List Bool) (m : Nat) (xs : List Int) : Int := if echk us m ≠ 0 then echk us m else if xs.length ≠ us.length then 3 else if En.FeasR (pus us bs) xs then 0 else 3
open Classical in
noncomputable def ccV (us : List Un) (bs : List Bool) (m : Nat) (xs : List Int) : Int := if ccE us bs m xs = 0 then En.costR (pus us bs) xs else 0
theorem ccE_ok {us : List Un} {bs : List Bool} {m : Nat} {xs : List Int} (h : ccE us bs m xs = 0) : echk us m = 0 ∧ xs.length = us.length ∧ En.FeasR (pus us bs) xs := by
  classical
  unfold ccE at h
  by_cases h1 : echk us m ≠ 0
  · rw [if_pos h1] at h; exact absurd h h1
  · rw [if_neg h1] at h
    by_cases h2 : xs.length ≠ us.length
    · rw [if_pos h2] at h; cases h
    · rw [if_neg h2] at h
      by_cases h3 : En.FeasR (pus us bs) xs
      · exact ⟨Classical.byContradiction h1, Classical.byContradiction h2, h3⟩
      · rw [if_neg h3] at h; cases h
theorem ccE_yes {us : List Un} {bs : List Bool} {m : Nat} {xs : List Int} (h1 : echk us m = 0) (h2 : xs.length = us.length) (h3 : En.FeasR (pus us bs) xs) : ccE us bs m xs = 0 ∧ ccV us bs m xs = En.costR (pus us bs) xs := by
  classical
  have e : ccE us bs m xs = 0 := by unfold ccE; rw [if_neg (by rw [h1]; simp), if_neg (by rw [h2]; simp), if_pos h3]
  exact ⟨e, by unfold ccV; rw [if_pos e]⟩

set_option maxRecDepth 100000 in
set_option maxHeartbeats 2000000 in
theorem eCost_any (A B C : Option Addr) (n c m d p e' : Nat) (us : List Un) (bs : List Bool) (xs : List Int) (w : World) (h : UsAt w A n us) (h' : BsAt w B m bs) (hx : IsAt w C p xs) (hm : n ≤ 1000000000000) (hm' : m ≤ 1000000000000) (hp : p ≤ 1000000000000) :
    Calls Tryz.prog 52 #[.slice A n c, .slice B m d, .slice C p e'] w fun e w' => e = .returned (.tuple #[.int .i64 (ccV us bs m xs), .int .i64 (ccE us bs m xs)]) ∧ Below w.heap.size w w' := by
  classical
  by_cases h1 : echk us m = 0
  · obtain ⟨_, hmn, hok⟩ := echk_ok h1
    have hnm : m = n := by rw [hmn]; exact h.1
    subst hnm
    by_cases h2 : p = m
    · subst h2
      refine (eCost_ok A B C p c d e' us bs xs w h h' hx hm h1).mono ?_
      rintro e w' ⟨hor, hb⟩
      refine ⟨?_, hb⟩
      rcases hor with ⟨hf, rfl⟩ | ⟨hf, rfl⟩
      · obtain ⟨e1, e2⟩ := ccE_yes (bs := bs) h1 (by rw [hx.1, h.1]) hf
        rw [e1, e2]
      · have e1 : ccE us bs p xs = 3 := by unfold ccE; rw [if_neg (by rw [h1]; simp), if_neg (by rw [hx.1, h.1]; simp), if_neg hf]
        have e2 : ccV us bs p xs = 0 := by unfold ccV; rw [if_neg (by rw [e1]; decide)]
        rw [e1, e2]
    · have e1 : ccE us bs m xs = 3 := by unfold ccE; rw [if_neg (by rw [h1]; simp), if_pos (by rw [hx.1, h.1]; exact h2)]
      have e2 : ccV us bs m xs = 0 := by unfold ccV; rw [if_neg (by rw [e1]; decide)]
      rw [e1, e2]
      have T := echeck_any A B m c m d us bs w h h' hm hm
      rw [h1] at T
      have HT := Lib.hid T
      have hne : ((p : Int) != (m : Int)) = true := by simp; omega
      clear T h h' hx h1 hmn hok e1 e2 h2
      go_enter Tryz.func52, Tryz.ntmps52
      go_wp2_with fail
      refine HT.out.mono ?_
      rintro e w1 ⟨rfl, hb1⟩
      have HB1 := Lib.hid hb1
      clear hb1 HT
      go_wp2
      go_ret2
      exact ⟨rfl, HB1.out⟩
  · have e1 : ccE us bs m xs = echk us m := by unfold ccE; rw [if_pos h1]
    have e2 : ccV us bs m xs = 0 := by unfold ccV; rw [if_neg (by rw [e1]; exact h1)]
    rw [e1, e2]
    have T := echeck_any A B n c m d us bs w h h' hm hm'
    clear h h' hx e1 e2
    generalize echk us m = x at *
    have hx : (x != 0) = true := by simpa using h1
    have HT := Lib.hid T
    clear T h1
    go_enter Tryz.func52, Tryz.ntmps52
    go_wp2_with fail
    refine HT.out.mono ?_
    rintro e w1 ⟨rfl, hb1⟩
    have HB1 := Lib.hid hb1
    clear hb1 HT
    go_wp2
    go_ret2
    exact ⟨rfl, HB1.out⟩

theorem feas_sum : ∀ {zs : List PU} {xs : List Int}, En.FeasR zs xs → En.sumR (zs.map PU.dn) ≤ En.sumR xs ∧ En.sumR xs ≤ En.sumR (zs.map PU.up)
  | [], [], _ => ⟨Int.le_refl _, Int.le_refl _⟩
  | z :: zs, x :: xs, h => by
    obtain ⟨h1, h2, h3⟩ := h
    have ih := feas_sum h3
    simp only [List.map_cons, En.sumR]
    omega
  | [], _ :: _, h => h.elim
  | _ :: _, [], h => h.elim
theorem feas_aerr {us : List Un} {bs : List Bool} {m : Nat} {xs : List Int} (h1 : echk us m = 0) (h : En.FeasR (pus us bs) xs) : aerr us bs m (En.sumR xs) = 0 ∧ 0 ≤ En.sumR xs ∧ En.sumR xs ≤ 15000000 := by
  obtain ⟨h5, hmn, hok⟩ := echk_ok h1
  have hokz : ∀ z ∈ us.zip bs, uchk z.1 = 0 := fun z hz => hok z.1 (List.of_mem_zip hz).1
  obtain ⟨_, e1, e2⟩ := pus_ok hokz
  have hs := feas_sum h
  have hr := range_bd _ hokz
  have hl : (us.zip bs).length ≤ 5 := by rw [List.length_zip]; omega
  unfold pus at hs
  rw [e1, e2] at hs
  refine ⟨?_, by omega, by omega⟩
  unfold aerr
  rw [if_neg (by rw [h1]; simp), if_neg (by omega), if_neg (by omega)]
theorem sumR_snoc : ∀ (xs : List Int) (x : Int), En.sumR (xs ++ [x]) = En.sumR xs + x
  | [], x => by simp [En.sumR]
  | y :: xs, x => by rw [List.cons_append, En.sumR, En.sumR, sumR_snoc xs x]; omega
theorem lex_at : ∀ {xs ys : List Int} {k : Nat}, En.lexLe xs ys → (∀ i, i < k → xs[i]?.getD 0 = ys[i]?.getD 0) → k < xs.length → xs[k]?.getD 0 ≠ ys[k]?.getD 0 → xs[k]?.getD 0 < ys[k]?.getD 0
  | [], _, _, _, _, h, _ => absurd h (by simp)
  | _ :: _, [], _, h, _, _, _ => h.elim
  | x :: xs, y :: ys, 0, h, _, _, hne => by
    rcases h with h | ⟨h, _⟩
    · simpa using h
    · exact absurd (by simpa using h) hne
  | x :: xs, y :: ys, k + 1, h, he, hk, hne => by
    have h0 := he 0 (by omega)
    simp only [List.getElem?_cons_zero, Option.getD_some] at h0
    rcases h with h | ⟨_, h⟩
    · omega
    · simpa using lex_at h (fun i hi => by simpa using he (i + 1) (by omega)) (by simpa using hk) (by simpa using hne)

set_option maxRecDepth 100000 in
set_option maxHeartbeats 8000000 in
theorem optimal_any (A B C : Option Addr) (n c m d p e' : Nat) (us : List Un) (bs : List Bool) (xs : List Int) (w : World) (h : UsRaw w A n us) (h' : BsAt w B m bs) (hx : IsAt w C p xs) :
    Calls Tryz.prog 12 #[.slice A n c, .slice B m d, .slice C p e'] w fun e w' => e = .returned (.bool true) ∧ Below w.heap.size w w' := by
  have T1 := long28_any A B n c m d us bs w h h'.1
  have HAW := Lib.hid (fun W => awake28_any W)
  cases hlg : longB us m
  · obtain ⟨hU, hn, hmn⟩ := h.at hlg
    rw [hlg] at T1
    have HT1 := Lib.hid T1
    by_cases hbig : 30 < p
    · have d1 : decide (30 < p) = true := by simpa using hbig
      have d1' : decide ((30 : Int) < (p : Int)) = true := by simp; omega
      clear h h' hlg T1 hU hbig hx
      go_enter Tryz.func12, Tryz.ntmps12
      go_wp2_with fail
      refine HT1.out.mono ?_
      rintro e w1 ⟨rfl, rfl⟩
      go_wp2_with fail
      refine (HAW.out _).mono ?_
      rintro e w2 ⟨rfl, hb2⟩
      go_wp2
      go_ret
      exact ⟨rfl, hb2⟩
    · have d1 : decide (30 < p) = false := by simpa using hbig
      have d1' : decide ((30 : Int) < (p : Int)) = false := by simp; omega
      have HCC := Lib.hid (fun W (hW : Below w.heap.size w W) => eCost_any A B C n c m d p e' us bs xs W (hU.below hW) (h'.below hW) (hx.below hW) (by omega) (by omega) (by omega))
      have HAL := Lib.hid (fun f' W (hW : Below w.heap.size w W) => ealloc_row A B n c m d us bs f' W (hU.below hW) (h'.below hW) (by omega))
      have HLC := Lib.hid (fun f' W (hW : Below w.heap.size w W) => elc_any A B n c m d us bs f' W (hU.below hW) (h'.below hW) (by omega) (by omega))
      have HC2 := Lib.hid (fun g ys W (hW : Below w.heap.size w W) (hy : IsAt W (some ⟨g, 0, none⟩) n ys) => eCost_any A B (some ⟨g, 0, none⟩) n c m d n n us bs ys W (hU.below hW) (h'.below hW) hy (by omega) (by omega) (by omega))
      have HUL := Lib.hid hU.1
      have HBL := Lib.hid h'.1
      have HX := Lib.hid hx
      have hp30 : p ≤ 30 := by omega
      clear h h' hlg T1 hU hbig hx
      go_enter Tryz.func12, Tryz.ntmps12
      go_wp2_with fail
      refine HT1.out.mono ?_
      rintro e w1 ⟨rfl, rfl⟩
      go_wp2_with fail
      refine (HAW.out _).mono ?_
      rintro e v0 ⟨rfl, hb0⟩
      have HB0 := Lib.hid hb0
      clear hb0 HT1 HAW
      go_wp2_with fail
      refine (HCC.out _ HB0.out).mono ?_
      rintro e v1 ⟨rfl, hb1⟩
      have HB1 := Lib.hid (HB0.out.trans (hb1.mono HB0.out.size))
      clear hb1 HCC
      by_cases he : ccE us bs m xs = 0
      · obtain ⟨g1, g2, g3⟩ := ccE_ok he
        obtain ⟨-, hcv⟩ := ccE_yes g1 g2 g3
        obtain ⟨ha0, hs0, hs1⟩ := feas_aerr g1 g3
        obtain ⟨h5, hml, hok⟩ := echk_ok g1
        have hal := pus_allok (bs := bs) hok
        have hfx : ∀ k, k < p → 0 ≤ xs[k]?.getD 0 ∧ xs[k]?.getD 0 ≤ 3000000 := by
          intro k hk
          have hI := feas_inC (bs := bs) (n := m) hml.symm HBL.out hok g3 k (by rw [← g2, HX.out.1]; exact hk)
          obtain ⟨_, _, hqb⟩ := curve_ok hI.1
          have := qsum_bd _ hqb
          omega
        have hpn : p = n := by rw [← HX.out.1, g2, HUL.out]
        have hn5 : n ≤ 5 := by have := HUL.out; omega
        have hmn2 : m = n := by rw [hml, HUL.out]
        rw [he, hcv]
        have HFX := Lib.hid hfx
        have HG1 := Lib.hid g1
        have HG2 := Lib.hid g2
        have HG3 := Lib.hid g3
        have HA0 := Lib.hid ha0
        have HALO := Lib.hid hal
        have hcb := costR_bd (n := m) hml.symm HBL.out (by omega) hok g3
        subst hpn
        clear hfx g1 g2 g3 ha0 hal he hcv h5 hml hok
        have HMN := Lib.hid hmn2
        clear hmn2
        go_wp2_with fail
        go_loop [9, 10] (fun t9 t => ∃ k : Nat, k ≤ p ∧ t = .int .i64 k ∧ t9 = .int .i64 (En.sumR (xs.take k)) ∧ Hid (0 ≤ En.sumR (xs.take k) ∧ En.sumR (xs.take k) ≤ 3000000 * k)) (fun _ t => p - (intOf t).toNat)
        case atStart => exact ⟨0, Nat.zero_le _, rfl, rfl, ⟨Int.le_refl _, Int.le_refl _⟩⟩
        case round =>
          obtain ⟨k, hk, rfl, rfl, hSB⟩ := hrel
          by_cases hlt : k < p
          · obtain ⟨b, o, rfl, hb, hc⟩ := HX.out.2 (by omega)
            have c1 := (HB1.out.cell (p := ⟨b, o + k, none⟩) hb).trans (hc k hlt)
            have hki1 : (0 : Int) ≤ (k : Int) := by omega
            have hki2 : (k : Int) < (p : Int) := by omega
            obtain ⟨f1, f2⟩ := HFX.out k hlt
            obtain ⟨s1, s2⟩ := hSB.out
            have hsn : En.sumR (xs.take (k + 1)) = En.sumR (xs.take k) + xs[k]?.getD 0 := by rw [takeI (by rw [HX.out.1]; exact hlt), sumR_snoc]
            have hsb2 : 0 ≤ En.sumR (xs.take (k + 1)) ∧ En.sumR (xs.take (k + 1)) ≤ 3000000 * ((k + 1 : Nat) : Int) := by rw [hsn]; constructor <;> omega
            have HSN := Lib.hid hsn
            have HSB2 := Lib.hid hsb2
            clear hsn hsb2 hc hSB
            generalize xs[k]?.getD 0 = x at *
            generalize En.sumR (xs.take k) = s at *
            have s3 : s ≤ 15000000 := by omega
            clear s2
            go_wp2
            go_round
            case rel => exact ⟨k + 1, by omega, by go_num, by rw [HSN.out], HSB2.out⟩
            case measure => simp [intOf]; omega
          · obtain rfl : k = p := by omega
            have htk : xs.take k = xs := List.take_of_length_le (by rw [HX.out.1]; exact Nat.le_refl _)
            rw [htk]
            clear htk hSB
            go_wp2_with fail
            refine (HAL.out _ _ HB1.out HA0.out).mono ?_
            rintro e v2 ⟨g, rfl, hR, hrl, hO, hg, hb2⟩
            have HB2 := Lib.hid (HB1.out.trans (hb2.mono HB1.out.size))
            have HR := Lib.hid (hR.at hrl)
            have hfe := hO.feas HALO.out
            obtain ⟨hl1, hl2⟩ := hO.least HALO.out HG3.out rfl
            have HO := Lib.hid hO
            have HRL := Lib.hid hrl
            have HL2 := Lib.hid hl2
            have hlv : lcV us bs m (En.sumR xs) = En.costR (pus us bs) (optR us bs (En.sumR xs)) := by unfold lcV; rw [if_pos HA0.out]
            obtain ⟨cc1, cc2⟩ := ccE_yes (bs := bs) HG1.out (by rw [hrl, HUL.out]) hfe
            have HLV := Lib.hid hlv
            have HC1 := Lib.hid cc1
            have HCV := Lib.hid cc2
            clear hb2 hR hrl hO hl2 hlv cc1 cc2 hfe HAL
            go_wp2_with fail
            refine (HLC.out _ _ HB2.out).mono ?_
            rintro e v3 ⟨rfl, -, hb3⟩
            have HB3 := Lib.hid (HB2.out.trans (hb3.mono HB2.out.size))
            have HR3 := Lib.hid (HR.out.below hb3)
            rw [HLV.out, HA0.out]
            clear hb3 HR HLC
            go_wp2_with fail
            refine (HC2.out g _ _ HB3.out HR3.out).mono ?_
            rintro e v4 ⟨rfl, hb4⟩
            have HB4 := Lib.hid (HB3.out.trans (hb4.mono HB3.out.size))
            have HR4 := Lib.hid (HR3.out.below hb4)
            rw [HC1.out, HCV.out]
            clear hb4 HR3 HC2
            generalize optR us bs (En.sumR xs) = ys at *
            generalize En.costR (pus us bs) ys = z1 at *
            generalize En.costR (pus us bs) xs = z2 at *
            have t1 : (z1 != z1) = false := by simp
            have t2 : decide (z2 < z1) = false := by simp; omega
            clear HLV HC1 HCV HO
            by_cases hz : z1 < z2
            · have t3 : decide (z1 < z2) = true := by simpa using hz
              go_wp2
              go_ret
              exact ⟨rfl, HB4.out⟩
            · have t3 : decide (z1 < z2) = false := by simpa using hz
              have HLX := Lib.hid (HL2.out (by omega))
              clear HL2 hcb hl1
              go_wp2_with fail
              go_loopw [17] (fun t wr => ∃ j : Nat, j ≤ k ∧ t = .int .i64 j ∧ Hid (∀ i, i < j → ys[i]?.getD 0 = xs[i]?.getD 0) ∧ Hid (Below v4.heap.size v4 wr)) (fun t _ => k - (intOf t).toNat)
              case atStart => exact ⟨0, Nat.zero_le _, rfl, fun i hi => absurd hi (by omega), Below.refl _ _⟩
              case round =>
                obtain ⟨j, hj, rfl, hE, hBr⟩ := hrel
                by_cases hjl : j < k
                · obtain ⟨b, o, rfl, hb, hc⟩ := HX.out.2 (by omega)
                  obtain ⟨b', o', hbo, hb', hc'⟩ := HR4.out.2 (by omega)
                  obtain ⟨rfl, rfl⟩ : g = b' ∧ 0 = o' := by simpa using hbo
                  have hbv : b < v4.heap.size := Nat.lt_of_lt_of_le hb HB4.out.size
                  have c1 := (hBr.out.cell (p := ⟨b, o + j, none⟩) hbv).trans ((HB4.out.cell (p := ⟨b, o + j, none⟩) hb).trans (hc j hjl))
                  have c2 := (hBr.out.cell (p := ⟨g, 0 + j, none⟩) hb').trans (hc' j hjl)
                  rw [Nat.zero_add] at c2
                  have hki1 : (0 : Int) ≤ (j : Int) := by omega
                  have hki2 : (j : Int) < (k : Int) := by omega
                  have HBD := Lib.hid (fun q => below_drewN (HB4.out.trans (hBr.out.mono HB4.out.size)) q)
                  have HBE := Lib.hid (fun q => below_drewN hBr.out q)
                  clear hc hc' hbo
                  by_cases hxy : ys[j]?.getD 0 = xs[j]?.getD 0
                  · have hE2 : ∀ i, i < j + 1 → ys[i]?.getD 0 = xs[i]?.getD 0 := fun i hi => by
                      by_cases hik : i = j
                      · rw [hik]; exact hxy
                      · exact hE.out i (by omega)
                    have HE2 := Lib.hid hE2
                    have q1 : (ys[j]?.getD 0 != xs[j]?.getD 0) = false := by simpa using hxy
                    generalize xs[j]?.getD 0 = x at *
                    generalize ys[j]?.getD 0 = y at *
                    clear hE2 hxy hE hBr
                    go_wp2
                    go_quiet (fail)
                    go_wp2
                    go_roundw
                    case rel => exact ⟨j + 1, by omega, by go_num, HE2.out, HBE.out _⟩
                    case measure => simp [intOf]; omega
                  · have hlt2 := lex_at HLX.out hE.out (by rw [HRL.out]; exact hjl) hxy
                    have q1 : (ys[j]?.getD 0 != xs[j]?.getD 0) = true := by simpa using hxy
                    have q2 : decide (ys[j]?.getD 0 < xs[j]?.getD 0) = true := by simpa using hlt2
                    generalize xs[j]?.getD 0 = x at *
                    generalize ys[j]?.getD 0 = y at *
                    clear hxy hE hBr
                    go_wp2
                    go_quiet (fail)
                    rename Nat => nq1
                    go_wp2
                    go_quiet (fail)
                    rename Nat => nq2
                    go_wp2
                    go_ret
                    refine ⟨by simp [hlt2], ?_⟩
                    first | exact HBD.out _ | exact below_drewN (HBD.out nq1) nq2
                · obtain rfl : j = k := by omega
                  have HBD := Lib.hid (HB4.out.trans (hBr.out.mono HB4.out.size))
                  clear hE hBr
                  go_wp2
                  go_ret
                  exact ⟨rfl, HBD.out⟩
      · have hcv : ccV us bs m xs = 0 := by unfold ccV; rw [if_neg he]
        rw [hcv]
        clear hcv
        generalize ccE us bs m xs = x at *
        have q1 : (x != 0) = true := by simpa using he
        clear he
        go_wp2
        go_ret
        exact ⟨rfl, HB1.out⟩
  · rw [hlg] at T1
    have HT1 := Lib.hid T1
    clear h h' hlg T1 hx
    go_enter Tryz.func12, Tryz.ntmps12
    go_wp2_with fail
    refine HT1.out.mono ?_
    rintro e w1 ⟨rfl, rfl⟩
    go_wp2_with fail
    refine (HAW.out _).mono ?_
    rintro e w2 ⟨rfl, hb2⟩
    go_wp2
    go_ret
    exact ⟨rfl, hb2⟩

end Go.Proofs.YthpldmlpononhaaGreat
