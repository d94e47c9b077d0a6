/-
The statement CommitReserveRequirement: the walk. No statement of the seat is proved here; no conditions beyond those of each theorem.
-/
import Derived.Test.YtdoeejcmaeefcaaGreatHU
import Derived.Test.YtdoeejcmaeefcaaGreatIB
import Derived.Test.YtdoeejcmaeefcaaGreatJCc1
namespace Go.Proofs.YtdoeejcmaeefcaaGreat
set_option linter.unusedVariables false
set_option linter.unusedSimpArgs false
open Go.RowKit
open Wd
open Cm

theorem need_ok {h : Hr} (hk : hchk h = 0) {x : Int} (h0 : 0 ≤ x) (h1 : x ≤ h.need) : hchk { h with need := x } = 0 ∧ firm { h with need := x } = firm h := by
  have key : hchk { h with need := x } = 0 := by
    unfold hchk at hk ⊢
    split at hk
    · simp at hk
    · rename_i g1
      rw [if_neg g1]
      split at hk
      · rename_i g2; exact absurd hk g2
      · rename_i g2
        rw [if_neg g2]
        split at hk
        · simp at hk
        · rename_i g3
          rw [if_neg]
          simp only
          omega
  refine ⟨key, ?_⟩
  unfold firm
  rw [if_pos key, if_pos hk]
theorem need_bd {us : List Un} {hs : List Hr} {k : Nat} (hc : cchk us hs = 0) (hk : k < hs.length) : 0 ≤ (hs[k]?.getD Hr0).need ∧ (hs[k]?.getD Hr0).need ≤ 1000000 := by
  have h1 := (cchk_ok.1 hc).2.2.2.2 _ (gmem (d := Hr0) hk)
  obtain ⟨_, _, q1, q2⟩ := hchk_ok h1
  exact ⟨by omega, by omega⟩
theorem need_plan {us : List Un} {hs : List Hr} {m k c1 : Nat} {v1 x : Int} (hml : hs.length = m) (hck : cchk us hs = 0) (hbv : bestV us hs = some (c1, v1)) (hkm : k < m) (hx0 : 0 ≤ x) (hx1 : x ≤ (hs[k]?.getD Hr0).need) :
    cchk us ((List.range m).map fun j => if j = k then { (hs[k]?.getD Hr0) with need := x } else hs[j]?.getD Hr0) = 0 ∧ (∃ c v, bestV us ((List.range m).map fun j => if j = k then { (hs[k]?.getD Hr0) with need := x } else hs[j]?.getD Hr0) = some (c, v) ∧ v ≤ v1) ∧
      (HsOk hs → HsOk ((List.range m).map fun j => if j = k then { (hs[k]?.getD Hr0) with need := x } else hs[j]?.getD Hr0)) := by
  obtain ⟨k1, k2, k3, k4, k5⟩ := cchk_ok.1 hck
  have hget : ∀ j, j < m → ((List.range m).map fun j => if j = k then { (hs[k]?.getD Hr0) with need := x } else hs[j]?.getD Hr0)[j]?.getD Hr0 = if j = k then { (hs[k]?.getD Hr0) with need := x } else hs[j]?.getD Hr0 := fun j hj => by simp [hj]
  have hok : ∀ j, j < m → hchk (if j = k then { (hs[k]?.getD Hr0) with need := x } else hs[j]?.getD Hr0) = 0 ∧ firm (if j = k then { (hs[k]?.getD Hr0) with need := x } else hs[j]?.getD Hr0) = firm (hs[j]?.getD Hr0) ∧ (if j = k then { (hs[k]?.getD Hr0) with need := x } else hs[j]?.getD Hr0).need ≤ (hs[j]?.getD Hr0).need ∧ (if j = k then { (hs[k]?.getD Hr0) with need := x } else hs[j]?.getD Hr0).bids = (hs[j]?.getD Hr0).bids := fun j hj => by
    have hjc := k5 _ (gmem (d := Hr0) (show j < hs.length by omega))
    by_cases e : j = k
    · subst e
      simp only [if_true]
      exact ⟨(need_ok hjc hx0 hx1).1, (need_ok hjc hx0 hx1).2, hx1, trivial⟩
    · simp only [if_neg e]
      exact ⟨hjc, trivial, Int.le_refl _, trivial⟩
  refine ⟨cchk_ok.2 ⟨k1, k2, by simp; omega, by simp; omega, fun h hh => ?_⟩, ?_, fun ho h hh => ?_⟩
  · obtain ⟨j, hj, rfl⟩ := List.mem_map.1 hh
    exact (hok j (List.mem_range.1 hj)).1
  · obtain ⟨c, v, g1, g2⟩ := plan_need (us := us) (hs := hs) (hs' := (List.range m).map fun j => if j = k then { (hs[k]?.getD Hr0) with need := x } else hs[j]?.getD Hr0) (by simp [hml]) (fun j hj => by rw [hget j (by omega)]; exact ⟨(hok j (by omega)).2.1, (hok j (by omega)).2.2.1⟩) hbv
    exact ⟨c, v, g1, g2⟩
  · obtain ⟨j, hj, rfl⟩ := List.mem_map.1 hh
    have hj := List.mem_range.1 hj
    rw [(hok j hj).2.2.2]
    exact ho _ (gmem (d := Hr0) (by omega))

set_option maxRecDepth 100000 in
set_option maxHeartbeats 8000000 in
theorem creserve_any (A B : Option Addr) (n c m d i z : Nat) (us : List Un) (hs : List Hr) (w : World) (h : UsRaw w A n us) (h' : HsAt w B m hs) (hi : i < 256) (hz : z < 65536) :
    Calls Tryz.prog 7 #[.slice A n c, .slice B m d, .int .u8 (i : Int), .int .u16 (z : Int)] w fun e w' => e = .returned (.bool true) ∧ Below w.heap.size w w' := by
  have T0 := long29_any A B n c m d us hs w h h'
  have HAW := Lib.hid awake29_any
  have HH := Lib.hid h'
  cases hL : long29 us hs with
  | true =>
    rw [hL] at T0
    have HT := Lib.hid T0
    clear h h' T0 hL
    go_enter Tryz.func7, Tryz.ntmps7
    go_wp2_with fail
    refine HT.out.mono ?_
    rintro e w1 ⟨rfl, rfl⟩
    clear HT
    go_wp2_with fail
    refine (HAW.out _).mono ?_
    rintro e w2 ⟨rfl, hb2⟩
    have HB2 := Lib.hid hb2
    clear hb2
    go_wp2
    go_ret
    exact ⟨rfl, HB2.out⟩
  | false =>
    rw [hL] at T0
    obtain ⟨g1, g2, g3⟩ := long29_no hL
    obtain ⟨u1, u2, _⟩ := h.at g1
    have HT := Lib.hid T0
    have HU := Lib.hid u1
    have HO := Lib.hid g3
    have hm20 : m ≤ 20 := by have := h'.1; omega
    have HNL := Lib.hid u1.1
    have HML := Lib.hid h'.1
    clear h h' T0 hL g1 g2 g3 u1
    have HW := Lib.hid (wide29_any A B n c m d us w HU.out (by omega))
    go_enter Tryz.func7, Tryz.ntmps7
    go_wp2_with fail
    refine HT.out.mono ?_
    rintro e w1 ⟨rfl, rfl⟩
    clear HT
    go_wp2_with fail
    refine HW.out.mono ?_
    rintro e w2 ⟨b, rfl, hb2⟩
    have HB2 := Lib.hid hb2
    clear hb2 HW
    cases b with
    | true =>
      go_wp2_with fail
      refine (HAW.out _).mono ?_
      rintro e w3 ⟨rfl, hb3⟩
      have HB3 := Lib.hid (Kp.trans (show Kp w w2 from HB2.out) hb3)
      clear hb3
      go_wp2
      go_ret
      exact ⟨rfl, HB3.out⟩
    | false =>
      have hnt : (!true) = false := rfl
      by_cases hm0 : m = 0
      · subst hm0
        go_wp2_with fail
        refine (HAW.out _).mono ?_
        rintro e w3 ⟨rfl, hb3⟩
        have HB3 := Lib.hid (Kp.trans (show Kp w w2 from HB2.out) hb3)
        clear hb3
        go_wp2
        go_ret
        exact ⟨rfl, HB3.out⟩
      · have hm0' : ((m : Int) == 0) = false := by simp; omega
        go_wp2_with fail
        refine (HAW.out _).mono ?_
        rintro e w3 ⟨rfl, hb3⟩
        have HB3 := Lib.hid (Kp.trans (show Kp w w2 from HB2.out) hb3)
        clear hb3 HB2 HAW
        have HT1 := Lib.hid (plan_raw A B n c m d us hs w3 (HU.out.below HB3.out) (HH.out.below HB3.out) HO.out (by omega) (by omega))
        go_wp2_with fail
        refine HT1.out.mono ?_
        rintro e w4 ⟨hb4, h4⟩
        have HB4 := Lib.hid (Kp.trans HB3.out (show Kp w3 w4 from hb4))
        clear HT1
        rcases h4 with ⟨h4, he⟩ | ⟨_, _, he⟩ | ⟨hck, ⟨c1, v1, hbv⟩, g, he, hown⟩
        · have hcb : (cchk us hs != 0) = true := by simp [h4]
          generalize cchk us hs = e0 at *
          subst he
          clear hb4 h4
          go_wp2
          go_ret
          exact ⟨rfl, HB4.out⟩
        · subst he
          clear hb4
          go_wp2
          go_ret
          exact ⟨rfl, HB4.out⟩
        · rw [HML.out] at he
          subst he
          have HCK := Lib.hid hck
          have HBV := Lib.hid hbv
          have HG := Lib.hid (hown.at (show (planB us hs).length = m by rw [(planB_shape hbv).1]; exact HML.out))
          have HT2 := ccost_raw A B (some ⟨g, 0, none⟩) n c m d m m us hs (planB us hs) w4 (HU.out.below HB4.out) (HH.out.below HB4.out) HG.out HO.out (by omega) (by omega)
          rw [costV_plan hck hbv] at HT2
          have HT3 := Lib.hid HT2
          clear hb4 hown hck hbv HT2
          go_wp2_with fail
          refine HT3.out.mono ?_
          rintro e w5 ⟨rfl, hb5⟩
          have HB5 := Lib.hid (Kp.trans HB4.out (show Kp w4 w5 from hb5))
          clear HT3 hb5
          obtain ⟨L, hl, hsrc⟩ := (HH.out.below HB5.out).src hm0
          obtain ⟨ii, hii, hz0, hz1, hz2⟩ := info_parts info_hour
          have HI := Lib.hid hii
          have HZ0 := Lib.hid hz0
          have HZ1 := Lib.hid hz1
          have HZ2 := Lib.hid hz2
          have o1 := Own.made (e := 46) (size := 3) w5 (Nat.le_refl _)
          have a1 := (Kp.refl w5).alloc (.cells #[] 46)
          have s1 := hsrc.below a1
          have HL := Lib.hid hl
          obtain ⟨k, hmod, hkm⟩ : ∃ k : Nat, (i : Int) % (m : Int) = (k : Int) ∧ k < m := ⟨i % m, by omega, Nat.mod_lt _ (by omega)⟩
          have hkb := need_bd HCK.out (show k < hs.length by rw [HML.out]; exact hkm)
          have j1 : (0 : Int) ≤ (k : Int) := by omega
          have j2 : (k : Int) < (m : Int) := by omega
          have hcell : ∀ cur, HsB w5 (fun j => hs[j]?.getD Hr0) m cur → cur[k * 3 + 2]? = some (.int .i64 (hs[k]?.getD Hr0).need) := fun cur hc => by
            obtain ⟨_, _, _, _, _, _, _, _, h3, _⟩ := hc.2 k hkm
            exact h3
          generalize hNK : (hs[k]?.getD Hr0).need = NK at *
          have HNK := Lib.hid hNK
          have wl : IntKind.i64.wrap (NK - (z : Int)) = NK - (z : Int) := IntWalk.i64_in _ (by omega)
          clear hNK
          clear hl hsrc hii hz0 hz1 hz2
          go_wp2_with (first
            | (at_builtin; refine wpList_append_my rfl (base := w5.heap.size) (e := 46) (size := 3) (bytes := 56) (.tmp 55) (.tmp 56) 23 rfl Tryz.underlying23 HI.out HZ0.out HZ1.out HZ2.out rfl (by decide) (xs := []) (news := L) rfl (by exact o1) rfl (by exact s1) (by simp only [maxLen]; omega) (by omega) (by simp) ?_
               intro B2 cb2 w6 hO2 hb6 hk6
               simp only [Nat.zero_add, List.nil_append] at hO2
               obtain ⟨g2, cur, rfl, hg2, hblk, hsb⟩ := HsB.of hO2 HL.out HML.out hm0
               have y0 := (hblk.cell (k * 3 + 2)).trans (hcell cur hsb)
               have y1 := hblk.frozen (k * 3 + 2)
               have HA6 := Lib.hid (And.intro hblk (And.intro hsb (And.intro hg2 (show Kp w5 w6 from Below.trans a1 hb6))))
               clear hO2 hb6 hk6 hblk hsb hg2))
          have hx0 : 0 ≤ max 0 (NK - (z : Int)) := by omega
          have hx1 : max 0 (NK - (z : Int)) ≤ NK := by omega
          generalize max 0 (NK - (z : Int)) = x at *
          obtain ⟨q1, q2, q3, q4⟩ := HA6.out
          have hnp := need_plan HML.out HCK.out HBV.out hkm hx0 (by rw [HNK.out]; exact hx1)
          obtain ⟨f1, ⟨c2, v2, f2, f3⟩, f4⟩ := hnp
          have q5 := q1.set (k * 3 + 2) (.int .i64 x)
          have kW : Kp w5 (w6.setCell ⟨g2, k * 3 + 2, none⟩ (.int .i64 x)) := q4.set (p := ⟨g2, k * 3 + 2, none⟩) q3 _
          have hH7 := (q2.need hkm x).hs q5 kW
          have HW7 := Lib.hid (show Kp w (w6.setCell ⟨g2, k * 3 + 2, none⟩ (.int .i64 x)) from Kp.trans HB5.out kW)
          generalize w6.setCell ⟨g2, k * 3 + 2, none⟩ (.int .i64 x) = w7 at *
          generalize (List.range m).map (fun j => if j = k then { (hs[k]?.getD Hr0) with need := x } else hs[j]?.getD Hr0) = hs2 at *
          have hml2 : hs2.length = m := hH7.1
          have HH7 := Lib.hid hH7
          have HT4 := Lib.hid (plan_raw A (some ⟨g2, 0, none⟩) n c m cb2 us hs2 w7 (HU.out.below HW7.out) hH7 (f4 HO.out) (by omega) (by omega))
          have HF := Lib.hid (And.intro f1 (And.intro f2 (And.intro (f4 HO.out) hml2)))
          have hlev : decide (v2 ≤ v1) = true := decide_eq_true f3
          clear y0 y1 q1 q2 q3 q4 q5 kW hH7 f1 f2 f4 hml2 HA6 o1 a1 s1 hx0 hx1 hcell
          go_wp2_with fail
          refine HT4.out.mono ?_
          rintro e w8 ⟨hb8, h8⟩
          rcases h8 with ⟨h8, he⟩ | ⟨_, h8, he⟩ | ⟨_, _, g3, he, hown⟩
          · exact absurd HF.out.1 h8
          · rw [HF.out.2.1] at h8
            simp at h8
          · rw [HF.out.2.2.2] at he
            subst he
            have HB8 := Lib.hid (Kp.trans HW7.out (show Kp w7 w8 from hb8))
            have HT5 := ccost_raw A (some ⟨g2, 0, none⟩) (some ⟨g3, 0, none⟩) n c m cb2 m m us hs2 (planB us hs2) w8 (HU.out.below HB8.out) (HH7.out.below hb8) (hown.at (by rw [(planB_shape HF.out.2.1).1]; exact HF.out.2.2.2)) HF.out.2.2.1 (by omega) (by omega)
            rw [costV_plan HF.out.1 HF.out.2.1] at HT5
            have HT6 := Lib.hid HT5
            clear hb8 hown HT5 HT4
            go_wp2_with fail
            refine HT6.out.mono ?_
            rintro e w9 ⟨rfl, hb9⟩
            have HB9 := Lib.hid (Kp.trans HB8.out hb9)
            clear HT6 hb9
            go_wp2
            go_ret
            exact ⟨rfl, HB9.out⟩

end Go.Proofs.YtdoeejcmaeefcaaGreat
