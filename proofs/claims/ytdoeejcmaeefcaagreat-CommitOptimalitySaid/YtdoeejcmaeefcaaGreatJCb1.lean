/-
The statement CommitOptimality: the walk. No statement of the seat is proved here; no conditions beyond those of each theorem.
-/
import Derived.Test.YtdoeejcmaeefcaaGreatHU
import Derived.Test.YtdoeejcmaeefcaaGreatIB
namespace Go.Proofs.YtdoeejcmaeefcaaGreat
set_option linter.unusedVariables false
set_option linter.unusedSimpArgs false
open Go.RowKit
open Wd
open Cm

theorem costV_zero {us : List Un} {hs : List Hr} {pl : List (List Bool)} (h : (costV us hs pl).2 ≠ 0) : (costV us hs pl).1 = 0 := by
  unfold costV at h ⊢
  split
  · rfl
  · rename_i h0
    rw [if_neg h0] at h
    split
    · rename_i h1
      rw [if_pos h1] at h
      cases e : costB us hs pl with
      | none => rfl
      | some v => rw [e] at h; simp at h
    · rfl
/-- What Optimality shows of a plan and the commitment. -/
structure OptV (us : List Un) (hs : List Hr) (pl : List (List Bool)) (n m : Nat) (v x : Int) : Prop where
  pl1 : pl.length = m
  pl2 : ∀ r ∈ pl, r.length = n
  b1 : (planB us hs).length = m
  b2 : ∀ r ∈ planB us hs, r.length = n
  best : ∃ c, bestV us hs = some (c, x)
  le : x ≤ v
  lex : x = v → lexle ((planB us hs).map num) (pl.map num)
theorem OptV.of {us : List Un} {hs : List Hr} {pl : List (List Bool)} {n m : Nat} {v : Int} (hn : us.length = n) (hm : hs.length = m) (h : costV us hs pl = (v, 0)) : cchk us hs = 0 ∧ ∃ x, OptV us hs pl n m v x := by
  obtain ⟨h1, h2, h3, h4⟩ := costV_ok h
  obtain ⟨c, x, g1, g2, g3⟩ := plan_opt h3 h4
  obtain ⟨p1, p2, _⟩ := planB_shape g1
  exact ⟨h1, x, by omega, fun r hr => by rw [h3 r hr, hn], by omega, fun r hr => by rw [p2 r hr, hn], ⟨c, g1⟩, g2, g3⟩

set_option maxRecDepth 100000 in
set_option maxHeartbeats 8000000 in
theorem copt_any (A B C : Option Addr) (n c m d p q : Nat) (us : List Un) (hs : List Hr) (pl : List (List Bool)) (w : World) (h : UsRaw w A n us) (h' : HsAt w B m hs) (hp : PlAt w C p pl) :
    Calls Tryz.prog 5 #[.slice A n c, .slice B m d, .slice C p q] w fun e w' => e = .returned (.bool true) ∧ Below w.heap.size w w' := by
  have T0 := long29_any A B n c m d us hs w h h'
  have HAW := Lib.hid awake29_any
  have HH := Lib.hid h'
  have HP := Lib.hid hp
  cases hL : long29 us hs with
  | true =>
    rw [hL] at T0
    have HT := Lib.hid T0
    clear h h' hp T0 hL
    go_enter Tryz.func5, Tryz.ntmps5
    go_wp2_with fail
    refine HT.out.mono ?_
    rintro e w1 ⟨rfl, rfl⟩
    clear HT
    go_wp2_with fail
    refine (HAW.out _).mono ?_
    rintro e w2 ⟨rfl, hb2⟩
    have HB2 := Lib.hid hb2
    clear hb2
    go_wp2
    go_ret
    exact ⟨rfl, HB2.out⟩
  | false =>
    rw [hL] at T0
    obtain ⟨g1, g2, g3⟩ := long29_no hL
    obtain ⟨u1, u2, _⟩ := h.at g1
    have HT := Lib.hid T0
    have HU := Lib.hid u1
    have HO := Lib.hid g3
    have hm20 : m ≤ 20 := by have := h'.1; omega
    have HNL := Lib.hid u1.1
    have HML := Lib.hid h'.1
    clear h h' hp T0 hL g1 g2 g3 u1
    by_cases hp30 : 30 < p
    · have d1 : decide (30 < p) = true := by simpa using hp30
      have d1' : decide ((30 : Int) < (p : Int)) = true := by simp; omega
      go_enter Tryz.func5, Tryz.ntmps5
      go_wp2_with fail
      refine HT.out.mono ?_
      rintro e w1 ⟨rfl, rfl⟩
      clear HT
      go_wp2_with fail
      refine (HAW.out _).mono ?_
      rintro e w2 ⟨rfl, hb2⟩
      have HB2 := Lib.hid hb2
      clear hb2
      go_wp2
      go_ret
      exact ⟨rfl, HB2.out⟩
    · have d1 : decide (30 < p) = false := by simpa using hp30
      have d1' : decide ((30 : Int) < (p : Int)) = false := by simp; omega
      have HW := Lib.hid (wide29_any A B n c m d us w HU.out (by omega))
      go_enter Tryz.func5, Tryz.ntmps5
      go_wp2_with fail
      refine HT.out.mono ?_
      rintro e w1 ⟨rfl, rfl⟩
      clear HT
      go_wp2_with fail
      refine HW.out.mono ?_
      rintro e w2 ⟨b, rfl, hb2⟩
      have HB2 := Lib.hid hb2
      clear hb2 HW
      cases b with
      | true =>
        go_wp2_with fail
        refine (HAW.out _).mono ?_
        rintro e w3 ⟨rfl, hb3⟩
        have HB3 := Lib.hid (Kp.trans (show Kp w w2 from HB2.out) hb3)
        clear hb3
        go_wp2
        go_ret
        exact ⟨rfl, HB3.out⟩
      | false =>
        have hnt : (!true) = false := rfl
        go_wp2_with fail
        refine (HAW.out _).mono ?_
        rintro e w3 ⟨rfl, hb3⟩
        have HB3 := Lib.hid (Kp.trans (show Kp w w2 from HB2.out) hb3)
        clear hb3 HB2 HAW
        have HT1 := Lib.hid (ccost_raw A B C n c m d p q us hs pl w3 (HU.out.below HB3.out) (HH.out.below HB3.out) (HP.out.below HB3.out) HO.out (by omega) (by omega))
        obtain ⟨v, v2, hcv⟩ : ∃ v v2, costV us hs pl = (v, v2) := ⟨_, _, rfl⟩
        rw [hcv] at HT1
        by_cases hv2 : v2 = 0
        · subst hv2
          obtain ⟨hck, x, hov⟩ := OptV.of HNL.out HML.out hcv
          have HCK := Lib.hid hck
          have HOV := Lib.hid hov
          obtain rfl : m = p := by rw [← hov.pl1]; exact HP.out.1
          clear hcv hck hov
          go_wp2_with fail
          refine HT1.out.mono ?_
          rintro e w4 ⟨rfl, hb4⟩
          have HB4 := Lib.hid (Kp.trans HB3.out hb4)
          clear HT1 hb4
          have HT2 := Lib.hid (plan_raw A B n c m d us hs w4 (HU.out.below HB4.out) (HH.out.below HB4.out) HO.out (by omega) (by omega))
          go_wp2_with fail
          refine HT2.out.mono ?_
          rintro e w5 ⟨hb5, h5⟩
          rcases h5 with ⟨h5, _⟩ | ⟨_, h5, _⟩ | ⟨_, _, g, he, hown⟩
          · exact absurd HCK.out h5
          · obtain ⟨cc, hb⟩ := HOV.out.best
            rw [h5] at hb
            simp at hb
          · rw [HML.out] at he
            subst he
            have HB5 := Lib.hid (Kp.trans HB4.out (show Kp w4 w5 from hb5))
            have HG := Lib.hid (hown.at HOV.out.b1)
            clear hb5 hown HT2
            have HT3 := ccost_raw A B (some ⟨g, 0, none⟩) n c m d m m us hs (planB us hs) w5 (HU.out.below HB5.out) (HH.out.below HB5.out) HG.out HO.out (by omega) (by omega)
            have hcp : costV us hs (planB us hs) = (x, 0) := by
              obtain ⟨cc, hb⟩ := HOV.out.best
              exact costV_plan HCK.out hb
            rw [hcp] at HT3
            have HT4 := Lib.hid HT3
            have hle : ¬ v < x := by have := HOV.out.le; omega
            have hled : decide (v < x) = false := by simpa using hle
            clear HT3 hcp
            by_cases hlt : x < v
            · have hltd : decide (x < v) = true := by simpa using hlt
              go_wp2_with fail
              refine HT4.out.mono ?_
              rintro e w6 ⟨rfl, hb6⟩
              have HB6 := Lib.hid (Kp.trans HB5.out hb6)
              clear HT4 hb6
              go_wp2
              go_ret
              exact ⟨rfl, HB6.out⟩
            · have hltd : decide (x < v) = false := by simpa using hlt
              have HLX := Lib.hid (HOV.out.lex (by omega))
              go_wp2_with fail
              refine HT4.out.mono ?_
              rintro e w6 ⟨rfl, hb6⟩
              have HB6 := Lib.hid (Kp.trans HB5.out hb6)
              have HG6 := Lib.hid (HG.out.below hb6)
              have HP6 := Lib.hid (HP.out.below HB6.out)
              clear HT4 hb6
              go_wp2_with fail
              go_loopw [13] (fun t wr => ∃ i : Nat, i ≤ m ∧ t = .int .i64 i ∧ Hid (Kp w6 wr ∧ ∀ j, j < i → (planB us hs)[j]?.getD [] = pl[j]?.getD [])) (fun t _ => m - (intOf t).toNat)
              case atStart => exact ⟨0, Nat.zero_le _, rfl, Kp.refl _, fun j hj => absurd hj (by omega)⟩
              case round =>
                obtain ⟨i, hi, rfl, hR⟩ := hrel
                obtain ⟨wu, rfl⟩ : ∃ v, v = wr := ⟨_, rfl⟩
                by_cases hlti : i < m
                · obtain ⟨bg, og, heg, hbg, hcg⟩ := HG6.out.2 (by omega)
                  obtain ⟨bp, op, rfl, hbp, hcp⟩ := HP6.out.2 (by omega)
                  obtain ⟨Ag, ng, cg, a0, a1⟩ := hcg i hlti
                  obtain ⟨Ap, np, cp, b0, b1⟩ := hcp i hlti
                  obtain ⟨rfl, rfl⟩ : g = bg ∧ og = 0 := by simp only [Option.some.injEq, Addr.mk.injEq] at heg; exact ⟨heg.1, heg.2.1.symm⟩
                  obtain rfl : n = ng := by rw [← a1.1]; exact (HOV.out.b2 _ (gmem (d := []) (by rw [HOV.out.b1]; exact hlti))).symm
                  obtain rfl : n = np := by rw [← b1.1]; exact (HOV.out.pl2 _ (gmem (d := []) (by rw [HOV.out.pl1]; exact hlti))).symm
                  simp only [Nat.zero_add] at a0
                  have q0 := (Below.cell hR.out.1 (p := ⟨g, i, none⟩) hbg).trans a0
                  have q1 := (Below.cell hR.out.1 (p := ⟨bp, op + i, none⟩) hbp).trans b0
                  have HS := Lib.hid (show ∀ w', Kp wu w' → (w'.cell? ⟨g, i, none⟩ = some (.slice Ag n cg) ∧ w'.cell? ⟨bp, op + i, none⟩ = some (.slice Ap n cp)) ∧ Kp wu w' from fun w' hk => ⟨⟨(Below.cell hk (p := ⟨g, i, none⟩) (Nat.lt_of_lt_of_le hbg hR.out.1.size)).trans q0, (Below.cell hk (p := ⟨bp, op + i, none⟩) (Nat.lt_of_lt_of_le hbp hR.out.1.size)).trans q1⟩, hk⟩)
                  have hk0 := Kp.refl wu
                  have i1 : (0 : Int) ≤ (i : Int) := by omega
                  have i2 : (i : Int) < (m : Int) := by omega
                  have hmm : ((m : Int) != (m : Int)) = false := by simp
                  have hnn : ((n : Int) != (n : Int)) = false := by simp
                  have HR := Lib.hid hR.out
                  have HAB := Lib.hid (And.intro a0 (And.intro a1 (And.intro b0 (And.intro b1 (And.intro hbg hbp)))))
                  clear hR a0 a1 b0 b1 q0 q1 hcg hcp heg hbg hbp
                  go_wp2_with fail
                  go_region_held3 (fun w' => (w'.cell? ⟨g, i, none⟩ = some (.slice Ag n cg) ∧ w'.cell? ⟨bp, op + i, none⟩ = some (.slice Ap n cp)) ∧ Kp wu w')
                    (first | (with_reducible refine HS.out _ ?_; with_reducible assumption) | (with_reducible refine HS.out _ (Kp.drew ?_); with_reducible assumption) | (with_reducible refine' HS.out _ (Kp.drew (And.right ?_)); rotate_left; with_reducible assumption))
                    (fail)
                  all_goals (
                    have hk := And.right ‹_ ∧ Kp wu _›
                    have HK := Lib.hid (Kp.trans HR.out.1 hk)
                    clear hk hk0 HS
                    go_wp2_with fail
                    go_loopw [14] (fun t wr => ∃ k : Nat, k ≤ n ∧ t = .int .i64 k ∧ Hid (Kp w6 wr ∧ ∀ j, j < k → ((planB us hs)[i]?.getD [])[j]?.getD false = (pl[i]?.getD [])[j]?.getD false)) (fun t _ => n - (intOf t).toNat)
                    case atStart => exact ⟨0, Nat.zero_le _, rfl, HK.out, fun j hj => absurd hj (by omega)⟩
                    case round =>
                      clear HK
                      obtain ⟨k, hk, rfl, hR⟩ := hrel
                      obtain ⟨wx, rfl⟩ : ∃ v, v = wr := ⟨_, rfl⟩
                      obtain ⟨a0, a1, b0, b1, hbg, hbp⟩ := HAB.out
                      have q0 := (Below.cell hR.out.1 (p := ⟨g, i, none⟩) hbg).trans a0
                      have q1 := (Below.cell hR.out.1 (p := ⟨bp, op + i, none⟩) hbp).trans b0
                      by_cases hltk : k < n
                      · obtain ⟨br, or, rfl, hbr, hcr⟩ := a1.2 (by omega)
                        obtain ⟨bs, os, rfl, hbs, hcs⟩ := b1.2 (by omega)
                        have y0 := (Below.cell hR.out.1 (p := ⟨br, or + k, none⟩) hbr).trans (hcr k hltk)
                        have y1 := (Below.cell hR.out.1 (p := ⟨bs, os + k, none⟩) hbs).trans (hcs k hltk)
                        have HLF := Lib.hid (fun hne => lex_first HOV.out.b2 HOV.out.pl2 HLX.out i k HR.out.2 hR.out.2 hne)
                        have k1 : (0 : Int) ≤ (k : Int) := by omega
                        have k2 : (k : Int) < (n : Int) := by omega
                        have hk0 := Kp.refl wx
                        have HX := Lib.hid hR.out
                        have HBL := Lib.hid (And.intro (Nat.lt_of_lt_of_le hbg hR.out.1.size) (And.intro (Nat.lt_of_lt_of_le hbp hR.out.1.size) (And.intro (Nat.lt_of_lt_of_le hbr hR.out.1.size) (Nat.lt_of_lt_of_le hbs hR.out.1.size))))
                        have HN := Lib.hid (fun (heq : ((planB us hs)[i]?.getD [])[k]?.getD false = (pl[i]?.getD [])[k]?.getD false) => (show ∀ j, j < k + 1 → ((planB us hs)[i]?.getD [])[j]?.getD false = (pl[i]?.getD [])[j]?.getD false from fun j hj => by
                          by_cases hjk : j = k
                          · subst hjk; exact heq
                          · exact hR.out.2 j (by omega)))
                        generalize ((planB us hs)[i]?.getD [])[k]?.getD false = yb at HLF HN y0
                        generalize (pl[i]?.getD [])[k]?.getD false = xb at HLF HN y1
                        have HS := Lib.hid (show ∀ w', Kp wx w' → (w'.cell? ⟨g, i, none⟩ = some (.slice (some ⟨br, or, none⟩) n cg) ∧ w'.cell? ⟨bp, op + i, none⟩ = some (.slice (some ⟨bs, os, none⟩) n cp) ∧ w'.cell? ⟨br, or + k, none⟩ = some (.bool yb) ∧ w'.cell? ⟨bs, os + k, none⟩ = some (.bool xb)) ∧ Kp wx w' from fun w' hk => ⟨⟨(Below.cell hk (p := ⟨g, i, none⟩) HBL.out.1).trans q0, (Below.cell hk (p := ⟨bp, op + i, none⟩) HBL.out.2.1).trans q1, (Below.cell hk (p := ⟨br, or + k, none⟩) HBL.out.2.2.1).trans y0, (Below.cell hk (p := ⟨bs, os + k, none⟩) HBL.out.2.2.2).trans y1⟩, hk⟩)
                        clear hR a0 a1 b0 b1 hbg hbp hbr hbs hcr hcs y0 y1
                        cases xb <;> cases yb
                        case true.true =>
                          have HNN := Lib.hid (HN.out rfl)
                          clear HN HLF
                          go_wp2_with fail
                          go_region_held3 (fun w' => (w'.cell? ⟨g, i, none⟩ = some (.slice (some ⟨br, or, none⟩) n cg) ∧ w'.cell? ⟨bp, op + i, none⟩ = some (.slice (some ⟨bs, os, none⟩) n cp) ∧ w'.cell? ⟨br, or + k, none⟩ = some (.bool true) ∧ w'.cell? ⟨bs, os + k, none⟩ = some (.bool true)) ∧ Kp wx w')
                            (first | (with_reducible refine HS.out _ ?_; with_reducible assumption) | (with_reducible refine HS.out _ (Kp.drew ?_); with_reducible assumption) | (with_reducible refine' HS.out _ (Kp.drew (And.right ?_)); rotate_left; with_reducible assumption))
                            (fail)
                          all_goals (
                            have hk := And.right ‹_ ∧ Kp wx _›
                            have HF := Lib.hid (Kp.trans HX.out.1 hk)
                            clear hk hk0 HS q0 q1
                            go_wp2
                            go_roundw
                            case rel => exact ⟨k + 1, by omega, by go_num, HF.out, HNN.out⟩
                            case measure => simp [intOf]; omega)
                        case false.false =>
                          have HNN := Lib.hid (HN.out rfl)
                          clear HN HLF
                          go_wp2_with fail
                          go_region_held3 (fun w' => (w'.cell? ⟨g, i, none⟩ = some (.slice (some ⟨br, or, none⟩) n cg) ∧ w'.cell? ⟨bp, op + i, none⟩ = some (.slice (some ⟨bs, os, none⟩) n cp) ∧ w'.cell? ⟨br, or + k, none⟩ = some (.bool false) ∧ w'.cell? ⟨bs, os + k, none⟩ = some (.bool false)) ∧ Kp wx w')
                            (first | (with_reducible refine HS.out _ ?_; with_reducible assumption) | (with_reducible refine HS.out _ (Kp.drew ?_); with_reducible assumption) | (with_reducible refine' HS.out _ (Kp.drew (And.right ?_)); rotate_left; with_reducible assumption))
                            (fail)
                          all_goals (
                            have hk := And.right ‹_ ∧ Kp wx _›
                            have HF := Lib.hid (Kp.trans HX.out.1 hk)
                            clear hk hk0 HS q0 q1
                            go_wp2
                            go_roundw
                            case rel => exact ⟨k + 1, by omega, by go_num, HF.out, HNN.out⟩
                            case measure => simp [intOf]; omega)
                        case false.true => exact absurd (HLF.out (by decide)) (by decide)
                        case true.false =>
                          clear HN HLF
                          go_wp2_with fail
                          go_region_held3 (fun w' => (w'.cell? ⟨g, i, none⟩ = some (.slice (some ⟨br, or, none⟩) n cg) ∧ w'.cell? ⟨bp, op + i, none⟩ = some (.slice (some ⟨bs, os, none⟩) n cp) ∧ w'.cell? ⟨br, or + k, none⟩ = some (.bool false) ∧ w'.cell? ⟨bs, os + k, none⟩ = some (.bool true)) ∧ Kp wx w')
                            (first | (with_reducible refine HS.out _ ?_; with_reducible assumption) | (with_reducible refine HS.out _ (Kp.drew ?_); with_reducible assumption) | (with_reducible refine' HS.out _ (Kp.drew (And.right ?_)); rotate_left; with_reducible assumption))
                            (fail)
                          all_goals (
                            obtain ⟨⟨m0, m1, m2, m3⟩, hk⟩ := ‹_ ∧ Kp wx _›
                            have HF := Lib.hid (Kp.trans HB6.out (Kp.trans HX.out.1 hk))
                            clear hk hk0 HS q0 q1
                            go_wp2
                            go_ret
                            exact ⟨rfl, HF.out⟩)
                      · obtain rfl : n = k := by omega
                        have HF := Lib.hid (show Kp w6 wx ∧ ∀ j, j < i + 1 → (planB us hs)[j]?.getD [] = pl[j]?.getD [] from ⟨hR.out.1, fun j hj => by
                          by_cases hji : j = i
                          · subst hji
                            exact ext_b (by rw [a1.1, b1.1]) fun z hz => hR.out.2 z (by rw [a1.1] at hz; exact hz)
                          · exact HR.out.2 j (by omega)⟩)
                        clear hR a0 a1 b0 b1 hbg hbp
                        go_wp2
                        go_roundw
                        case rel => exact ⟨i + 1, by omega, by go_num, HF.out⟩
                        case measure => simp [intOf]; omega)
                · have HF := Lib.hid (Kp.trans HB6.out hR.out.1)
                  obtain rfl : m = i := by omega
                  clear hR
                  go_wp2
                  go_ret
                  exact ⟨rfl, HF.out⟩
        · have hz := costV_zero (us := us) (hs := hs) (pl := pl) (by rw [hcv]; exact hv2)
          rw [hcv] at hz
          simp only at hz
          subst hz
          have hv : (v2 != 0) = true := by simp [hv2]
          have HV := Lib.hid hv2
          clear hcv hv2
          go_wp2_with fail
          refine HT1.out.mono ?_
          rintro e w4 ⟨rfl, hb4⟩
          have HB4 := Lib.hid (Kp.trans HB3.out hb4)
          clear HT1 hb4
          go_wp2
          go_ret
          exact ⟨rfl, HB4.out⟩

end Go.Proofs.YtdoeejcmaeefcaaGreat
