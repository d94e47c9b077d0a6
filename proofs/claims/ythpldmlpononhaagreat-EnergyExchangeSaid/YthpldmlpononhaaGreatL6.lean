/-
The statement EnergyExchange: the walk. No statement of the seat is proved here; no conditions beyond those of each theorem.
-/
import Derived.Test.YthpldmlpononhaaGreatL5
namespace Go.Proofs.YthpldmlpononhaaGreat
set_option linter.unusedVariables false
set_option linter.unusedSimpArgs false
open Go.RowKit
open Wd
open En (Pc PU)

/-- One unit of output moved from a to b. -/
def moved (ys : List Int) (a b : Nat) : List Int := (ys.set a (ys[a]?.getD 0 - 1)).set b (ys[b]?.getD 0 + 1)
theorem moved_len (ys : List Int) (a b : Nat) : (moved ys a b).length = ys.length := by unfold moved; simp
theorem moved_sum {ys : List Int} {a b : Nat} (ha : a < ys.length) (hb : b < ys.length) (hab : a ≠ b) : En.sumR (moved ys a b) = En.sumR ys := by
  unfold moved
  have e1 := En.sum_set ys a (-1) ha
  have e2 : (ys.set a (ys[a]?.getD 0 - 1))[b]?.getD 0 = ys[b]?.getD 0 := by rw [En.set_get _ _ _ _ ha, if_neg hab]
  have e3 := En.sum_set (ys.set a (ys[a]?.getD 0 - 1)) b 1 (by simpa using hb)
  rw [e2] at e3
  rw [e3, Int.sub_eq_add_neg, e1]
  omega
theorem moved_lex {ys : List Int} {a b : Nat} (ha : a < ys.length) (hb : b < ys.length) (hab : a ≠ b) (h : En.lexLe ys (moved ys a b)) : b < a := by
  rcases Nat.lt_or_ge b a with hlt | hge
  · exact hlt
  · exfalso
    have hget : ∀ i, (moved ys a b)[i]?.getD 0 = if b = i then ys[b]?.getD 0 + 1 else if a = i then ys[a]?.getD 0 - 1 else ys[i]?.getD 0 := fun i => by
      unfold moved
      rw [En.set_get _ _ _ _ (by simpa using hb), En.set_get _ _ _ _ ha]
    have h1 := lex_at (k := a) h (fun i hi => by rw [hget, if_neg (by omega), if_neg (by omega)]) ha (by rw [hget, if_neg (by omega), if_pos rfl]; omega)
    rw [hget, if_neg (by omega), if_pos rfl] at h1
    omega

set_option maxRecDepth 100000 in
set_option maxHeartbeats 8000000 in
theorem exchange_any (A B : Option Addr) (n c m d i k : Nat) (us : List Un) (bs : List Bool) (f : Int) (w : World) (h : UsRaw w A n us) (h' : BsAt w B m bs) (hi : i < 256) (hk : k < 256) :
    Calls Tryz.prog 13 #[.slice A n c, .slice B m d, .int .i64 f, .int .u8 (i : Int), .int .u8 (k : Int)] w fun e w' => e = .returned (.bool true) ∧ Below w.heap.size w w' := by
  have T1 := long28_any A B n c m d us bs w h h'.1
  have HAW := Lib.hid (fun W => awake28_any W)
  cases hlg : longB us m
  · obtain ⟨hU, hn, hmn⟩ := h.at hlg
    rw [hlg] at T1
    have HT1 := Lib.hid T1
    by_cases hn0 : n = 0
    · subst hn0
      clear h h' hlg T1 hU
      go_enter Tryz.func13, Tryz.ntmps13
      go_wp2_with fail
      refine HT1.out.mono ?_
      rintro e w1 ⟨rfl, rfl⟩
      go_wp2_with fail
      refine (HAW.out _).mono ?_
      rintro e w2 ⟨rfl, hb2⟩
      go_wp2
      go_ret
      exact ⟨rfl, hb2⟩
    · have d1 : ((n : Int) == 0) = false := by simp; omega
      have HALN := Lib.hid (fun W (hW : Below w.heap.size w W) => ealloc_no A B n c m d us bs f W (hU.below hW) (h'.below hW) (by omega) (by omega))
      have HAL := Lib.hid (fun W (hW : Below w.heap.size w W) => ealloc_row A B n c m d us bs f W (hU.below hW) (h'.below hW) (by omega))
      have HLC := Lib.hid (fun W (hW : Below w.heap.size w W) => elc_any A B n c m d us bs f W (hU.below hW) (h'.below hW) (by omega) (by omega))
      have HC2 := Lib.hid (fun g ys W (hW : Below w.heap.size w W) (hy : IsAt W (some ⟨g, 0, none⟩) n ys) => eCost_any A B (some ⟨g, 0, none⟩) n c m d n n us bs ys W (hU.below hW) (h'.below hW) hy (by omega) (by omega) (by omega))
      have HUL := Lib.hid hU.1
      have HBL := Lib.hid h'.1
      by_cases he : aerr us bs m f = 0
      · have HE := Lib.hid he
        obtain ⟨g1, -⟩ := aerr_ok he
        obtain ⟨h5, hml, hok⟩ := echk_ok g1
        have HALO := Lib.hid (pus_allok (bs := bs) hok)
        have HG1 := Lib.hid g1
        have HOK := Lib.hid hok
        have HML := Lib.hid hml
        have hn5 : n ≤ 5 := by have := HUL.out; omega
        clear h h' hlg T1 hU HALN g1 hml hok he h5
        go_enter Tryz.func13, Tryz.ntmps13
        go_wp2_with fail
        refine HT1.out.mono ?_
        rintro e w1 ⟨rfl, rfl⟩
        go_wp2_with fail
        refine (HAW.out _).mono ?_
        rintro e v0 ⟨rfl, hb0⟩
        have HB0 := Lib.hid hb0
        clear hb0 HT1 HAW
        go_wp2_with fail
        refine (HAL.out _ HB0.out HE.out).mono ?_
        rintro e v1 ⟨g, rfl, hR, hrl, hO, hg, hb1⟩
        have HB1 := Lib.hid (HB0.out.trans (hb1.mono HB0.out.size))
        have HR := Lib.hid hR
        have HO := Lib.hid hO
        have HRL := Lib.hid hrl
        have hgw : w.heap.size ≤ g := Nat.le_trans HB0.out.size hg
        clear hb1 hR hO hrl HAL hg
        go_wp2_with fail
        refine (HLC.out _ HB1.out).mono ?_
        rintro e v2 ⟨rfl, -, hb2⟩
        have hlv : lcV us bs m f = En.costR (pus us bs) (optR us bs f) := by unfold lcV; rw [if_pos HE.out]
        rw [HE.out, hlv]
        have HB2 := Lib.hid (HB1.out.trans (hb2.mono HB1.out.size))
        have HR2 := Lib.hid (HR.out.below hb2)
        have hfe := HO.out.feas HALO.out
        have hfb : ∀ j, j < n → 0 ≤ (optR us bs f)[j]?.getD 0 ∧ (optR us bs f)[j]?.getD 0 ≤ 3000000 := by
          intro j hj
          have hI := feas_inC (bs := bs) (n := m) HML.out.symm HBL.out HOK.out hfe j (by have := HUL.out; omega)
          obtain ⟨_, _, hqb⟩ := curve_ok hI.1
          have := qsum_bd _ hqb
          omega
        have HFB := Lib.hid hfb
        clear hlv hb2 hfe hfb HLC HR
        have hin : i % n < n := Nat.mod_lt _ (by omega)
        have hkn : k % n < n := Nat.mod_lt _ (by omega)
        have ei : (i : Int).tmod (n : Int) = ((i % n : Nat) : Int) := by rw [Int.tmod_eq_emod_of_nonneg (by omega)]; simp
        have ek : (k : Int).tmod (n : Int) = ((k % n : Nat) : Int) := by rw [Int.tmod_eq_emod_of_nonneg (by omega)]; simp
        have ei2 : (i : Int) % (n : Int) = ((i % n : Nat) : Int) := by simp
        have ek2 : (k : Int) % (n : Int) = ((k % n : Nat) : Int) := by simp
        generalize i % n = a at *
        generalize k % n = b at *
        have d2 : ((n : Int) != (n : Int)) = false := by simp
        have hnn : ((n : Int) == 0) = false := d1
        go_wp2_with fail
        go_quiet (fail)
        rename Nat => nq0
        have hRV : IRow (v2.drewN nq0) g (optR us bs f) := Blk.drewN HR2.out nq0
        have hBV := below_drewN HB2.out nq0
        generalize v2.drewN nq0 = V at *
        have HRV := Lib.hid hRV
        have HBV := Lib.hid hBV
        clear hRV hBV HR2 HB2
        by_cases hab : a = b
        · subst hab
          have d3 : ((a : Int) == (a : Int)) = true := by simp
          go_wp2
          go_ret
          exact ⟨rfl, HBV.out⟩
        · have d3 : ((a : Int) == (b : Int)) = false := by simp; omega
          have hR2 := HRV.out
          have hrl := HRL.out
          have hya := hR2.cell (i := a) (by omega)
          have hyf := hR2.frozen a
          have hR3 := hR2.set a ((optR us bs f)[a]?.getD 0 - 1)
          have hyb := hR3.cell (i := b) (by rw [List.length_set]; omega)
          have hyg := hR3.frozen b
          rw [En.set_get _ _ _ _ (by omega), if_neg hab] at hyb
          have hR4 := hR3.set b ((optR us bs f)[b]?.getD 0 + 1)
          have hbd1 := HFB.out a hin
          have hbd2 := HFB.out b hkn
          have hB3 := (HBV.out.setCell (p := ⟨g, a, none⟩) hgw (.int .i64 ((optR us bs f)[a]?.getD 0 - 1))).setCell (p := ⟨g, b, none⟩) hgw (.int .i64 ((optR us bs f)[b]?.getD 0 + 1))
          have hI4 : IsAt ((V.setCell ⟨g, a, none⟩ (.int .i64 ((optR us bs f)[a]?.getD 0 - 1))).setCell ⟨g, b, none⟩ (.int .i64 ((optR us bs f)[b]?.getD 0 + 1))) (some ⟨g, 0, none⟩) n (moved (optR us bs f) a b) :=
            IRow.at hR4 (by rw [moved_len]; exact hrl)
          have hms := moved_sum (ys := optR us bs f) (a := a) (b := b) (by omega) (by omega) hab
          have hml := moved_lex (ys := optR us bs f) (a := a) (b := b) (by omega) (by omega) hab
          have hmn : (moved (optR us bs f) a b).length = us.length := by rw [moved_len, hrl, HUL.out]
          have HMS := Lib.hid hms
          have HML2 := Lib.hid hml
          have HMN2 := Lib.hid hmn
          have HI4 := Lib.hid hI4
          have HB3 := Lib.hid hB3
          clear hms hml hmn hI4 hB3 hR2 hR3 hR4 hrl HRV
          generalize hmv : moved (optR us bs f) a b = ms at *
          generalize (optR us bs f)[a]?.getD 0 = ya at *
          generalize (optR us bs f)[b]?.getD 0 = yb at *
          clear hmv
          have j1 : (0 : Int) ≤ (a : Int) := by omega
          have j2 : (a : Int) < (n : Int) := by omega
          have j3 : (0 : Int) ≤ (b : Int) := by omega
          have j4 : (b : Int) < (n : Int) := by omega
          obtain ⟨u1, u2⟩ := hbd1
          obtain ⟨u3, u4⟩ := hbd2
          clear ei ek ei2 ek2
          go_wp2_with fail
          refine (HC2.out g ms _ HB3.out HI4.out).mono ?_
          rintro e v3 ⟨rfl, hb3⟩
          have HB4 := Lib.hid (HB3.out.trans (hb3.mono HB3.out.size))
          clear hb3 HC2 HI4 hya hyf hyb hyg HB3
          by_cases hcc : ccE us bs m ms = 0
          · obtain ⟨-, -, hfm⟩ := ccE_ok hcc
            obtain ⟨-, hcv⟩ := ccE_yes HG1.out HMN2.out hfm
            obtain ⟨l1, l2⟩ := HO.out.least HALO.out hfm (by rw [HMS.out]; exact HO.out.1)
            rw [hcc, hcv]
            clear hcc hcv hfm
            generalize En.costR (pus us bs) ms = z2 at *
            generalize En.costR (pus us bs) (optR us bs f) = z1 at *
            by_cases hz : z1 < z2
            · have d4 : decide (z1 < z2) = true := by simpa using hz
              clear l2
              go_wp2
              go_ret
              exact ⟨rfl, HB4.out⟩
            · have d4 : decide (z1 < z2) = false := by simpa using hz
              have hba := HML2.out (l2 (by omega))
              obtain rfl : z1 = z2 := by omega
              have d5 : (z1 == z1) = true := by simp
              have d6 : decide ((b : Int) < (a : Int)) = true := by simp; omega
              have d7 : decide (b < a) = true := by simpa using hba
              clear l2 l1
              go_wp2
              go_ret
              exact ⟨rfl, HB4.out⟩
          · generalize ccE us bs m ms = x at *
            have d4 : (x != 0) = true := by simpa using hcc
            clear hcc
            go_wp2
            go_ret
            exact ⟨rfl, HB4.out⟩
      · have HN := Lib.hid (fun W (hW : Below w.heap.size w W) => HALN.out W hW he)
        have HZ := Lib.hid (show lcV us bs m f = 0 by unfold lcV; rw [if_neg he])
        clear h h' hlg T1 hU HALN HAL HC2
        rw [HZ.out] at HLC
        generalize aerr us bs m f = x at *
        have d4 : (x != 0) = true := by simpa using he
        have d5 : (x == x) = true := by simp
        clear he
        go_enter Tryz.func13, Tryz.ntmps13
        go_wp2_with fail
        refine HT1.out.mono ?_
        rintro e w1 ⟨rfl, rfl⟩
        go_wp2_with fail
        refine (HAW.out _).mono ?_
        rintro e v0 ⟨rfl, hb0⟩
        have HB0 := Lib.hid hb0
        clear hb0 HT1 HAW
        go_wp2_with fail
        refine (HN.out _ HB0.out).mono ?_
        rintro e v1 ⟨rfl, hb1⟩
        have HB1 := Lib.hid (HB0.out.trans (hb1.mono HB0.out.size))
        clear hb1 HN
        go_wp2_with fail
        refine (HLC.out _ HB1.out).mono ?_
        rintro e v2 ⟨rfl, -, hb2⟩
        have HB2 := Lib.hid (HB1.out.trans (hb2.mono HB1.out.size))
        clear hb2 HLC
        go_wp2
        go_ret
        exact ⟨rfl, HB2.out⟩
  · rw [hlg] at T1
    have HT1 := Lib.hid T1
    clear h h' hlg T1
    go_enter Tryz.func13, Tryz.ntmps13
    go_wp2_with fail
    refine HT1.out.mono ?_
    rintro e w1 ⟨rfl, rfl⟩
    go_wp2_with fail
    refine (HAW.out _).mono ?_
    rintro e w2 ⟨rfl, hb2⟩
    go_wp2
    go_ret
    exact ⟨rfl, hb2⟩

end Go.Proofs.YthpldmlpononhaaGreat
