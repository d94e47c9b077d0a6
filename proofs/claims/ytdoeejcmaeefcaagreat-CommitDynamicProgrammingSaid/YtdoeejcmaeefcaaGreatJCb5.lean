/-
The statement CommitDynamicProgramming: the walk. No statement of the seat is proved here; no conditions beyond those of each theorem.
-/
import Derived.Test.YtdoeejcmaeefcaaGreatHU
import Derived.Test.YtdoeejcmaeefcaaGreatIB
import Derived.Test.YtdoeejcmaeefcaaGreatJCc1
import Derived.Test.YtdoeejcmaeefcaaGreatHX
namespace Go.Proofs.YtdoeejcmaeefcaaGreat
set_option linter.unusedVariables false
set_option linter.unusedSimpArgs false
open Go.RowKit
open Wd
open Cm

theorem dp_k {m i : Nat} (h : 2 ≤ m) : ∃ k : Nat, 1 + (i : Int) % ((m : Int) - 1) = (k : Int) ∧ 0 < k ∧ k < m := by
  have e : ((m - 1 : Nat) : Int) = (m : Int) - 1 := by omega
  refine ⟨1 + i % (m - 1), ?_, by omega, ?_⟩
  · rw [← e]; push_cast; rfl
  · have := Nat.mod_lt i (show 0 < m - 1 by omega)
    omega
/-- Units of which the first i have another On. -/
def onF (us : List Un) (ss : List Int) (i j : Nat) : Un := if j < i then { (us[j]?.getD U0) with on := ss[j]?.getD 0 } else us[j]?.getD U0
theorem onF_all {us : List Un} {ss : List Int} {n : Nat} (hn : us.length = n) : (List.range n).map (onF us ss n) = setOn us ss := by
  unfold setOn
  rw [hn]
  refine List.map_congr_left fun j hj => ?_
  unfold onF
  rw [if_pos (List.mem_range.1 hj)]
/-- The copy in memory. -/
def Dcp (w0 : World) (us : List Un) (n : Nat) (ss : List Int) (B4 : Option Addr) (i : Nat) (wr : World) : Prop :=
  Kp w0 wr ∧ (n ≠ 0 → ∃ g4 cur, B4 = some ⟨g4, 0, none⟩ ∧ w0.heap.size ≤ g4 ∧ Blk wr g4 39 cur ∧ UsB w0 (onF us ss i) n cur)
theorem Dcp.keep {w0 : World} {us : List Un} {n : Nat} {ss : List Int} {B4 : Option Addr} {i : Nat} {wr w' : World} (h : Dcp w0 us n ss B4 i wr) (hb : Kp wr w') : Dcp w0 us n ss B4 i w' :=
  ⟨Kp.trans h.1 hb, fun hn => by obtain ⟨g4, cur, e, h1, h2, h3⟩ := h.2 hn; exact ⟨g4, cur, e, h1, Kp.blk hb h2, h3⟩⟩
theorem Dcp.us {w0 : World} {us : List Un} {n : Nat} {ss : List Int} {B4 : Option Addr} {wr : World} (h : Dcp w0 us n ss B4 n wr) (hn : us.length = n) : UsAt wr B4 n (setOn us ss) := by
  by_cases h0 : n = 0
  · subst h0
    exact ⟨by rw [setOn_len]; exact hn, fun h => absurd rfl h⟩
  · obtain ⟨g4, cur, rfl, _, q1, q2⟩ := h.2 h0
    have := q2.us q1 h.1
    rwa [onF_all hn] at this
theorem Dcp.step {w0 : World} {us : List Un} {n : Nat} {ss : List Int} {g4 i : Nat} {wr : World} (h : Dcp w0 us n ss (some ⟨g4, 0, none⟩) i wr) (hi : i < n) :
    ((∃ v, wr.cell? ⟨g4, i * 9 + 8, none⟩ = some v) ∧ wr.frozen? ⟨g4, i * 9 + 8, none⟩ = false) ∧ Dcp w0 us n ss (some ⟨g4, 0, none⟩) (i + 1) (wr.setCell ⟨g4, i * 9 + 8, none⟩ (.int .i64 (ss[i]?.getD 0))) := by
  obtain ⟨g, cur, e, h6, h7, h8⟩ := h.2 (by omega)
  simp only [Option.some.injEq, Addr.mk.injEq, and_true] at e
  subst e
  obtain ⟨v0, e0⟩ := h8.cell hi (i := 8) (by omega)
  refine ⟨⟨⟨v0, (h7.cell _).trans e0⟩, h7.frozen _⟩, h.1.set (p := ⟨g4, i * 9 + 8, none⟩) h6 _, fun _ => ⟨g4, _, rfl, h6, h7.set _ _, ?_⟩⟩
  refine h8.set (x := ss[i]?.getD 0) hi (Or.inr (Or.inr rfl)) (fun j hj => ?_) (fun e => absurd e (by decide)) (fun e => absurd e (by decide)) (fun _ => by simp [onF])
  unfold onF
  by_cases hji : j < i
  · rw [if_pos hji, if_pos (by omega)]
  · rw [if_neg hji, if_neg (by omega)]
theorem HsAt.take {w : World} {A : Option Addr} {m k : Nat} {hs : List Hr} (h : HsAt w A m hs) (hk : k ≤ m) : HsAt w A k (hs.take k) := by
  refine ⟨by rw [List.length_take, h.1]; omega, fun hn => ?_⟩
  obtain ⟨b, o, e, hlt, hc⟩ := h.2 (by omega)
  refine ⟨b, o, e, hlt, fun j hj => ?_⟩
  rw [List.getElem?_take_of_lt hj]
  exact hc j (by omega)
theorem HsAt.drop {w : World} {A A1 : Option Addr} {m k : Nat} {hs : List Hr} (h : HsAt w A m hs) (hk : k < m) (hA : ∀ b o, A = some ⟨b, o, none⟩ → A1 = some ⟨b, o + k * 3, none⟩) : HsAt w A1 (m - k) (hs.drop k) := by
  refine ⟨by rw [List.length_drop, h.1], fun _ => ?_⟩
  obtain ⟨b, o, e, hlt, hc⟩ := h.2 (by omega)
  refine ⟨b, o + k * 3, hA b o e, hlt, fun j hj => ?_⟩
  rw [List.getElem?_drop, show o + k * 3 + j * 3 = o + (k + j) * 3 by omega]
  exact hc (k + j) (by omega)
theorem PlAt.take {w : World} {A : Option Addr} {m k : Nat} {pl : List (List Bool)} (h : PlAt w A m pl) (hk : k ≤ m) : PlAt w A k (pl.take k) := by
  refine ⟨by rw [List.length_take, h.1]; omega, fun hn => ?_⟩
  obtain ⟨b, o, e, hlt, hc⟩ := h.2 (by omega)
  refine ⟨b, o, e, hlt, fun j hj => ?_⟩
  rw [List.getElem?_take_of_lt hj]
  exact hc j (by omega)
theorem PlAt.drop {w : World} {A A1 : Option Addr} {m k : Nat} {pl : List (List Bool)} (h : PlAt w A m pl) (hk : k < m) (hA : ∀ b o, A = some ⟨b, o, none⟩ → A1 = some ⟨b, o + k, none⟩) : PlAt w A1 (m - k) (pl.drop k) := by
  refine ⟨by rw [List.length_drop, h.1], fun _ => ?_⟩
  obtain ⟨b, o, e, hlt, hc⟩ := h.2 (by omega)
  refine ⟨b, o + k, hA b o e, hlt, fun j hj => ?_⟩
  rw [List.getElem?_drop, show o + k + j = o + (k + j) by omega]
  exact hc (k + j) (by omega)

theorem best_bd29 {us : List Un} {hs : List Hr} {c : Nat} {v : Int} (hc : cchk us hs = 0) (h : bestV us hs = some (c, v)) : v.natAbs ≤ 400000000000000 := by
  obtain ⟨k1, k2, k3, k4, k5⟩ := cchk_ok.1 hc
  refine bsV_bd (R := rowsOf us hs) (n := us.length) (h := 0) (ss := initS us) (c := c) k1 k2 (by simp [rowsOf]; omega) ?_ (by rw [bestV_eq rfl]; exact h)
  intro j q x hx
  by_cases hj : j < hs.length
  · have e1 : (rowsOf us hs)[j]?.getD [] = rowOf us (hs[j]?.getD Hr0) := by simp [rowsOf, hj]
    rw [e1] at hx
    by_cases hq : q < 2 ^ us.length
    · have e2 : (rowOf us (hs[j]?.getD Hr0))[q]?.getD none = supH us (hs[j]?.getD Hr0) (bitsN us.length q) := by simp [rowOf, hq]
      rw [e2] at hx
      exact sup_bd k1 k2 (bitsN_len _ _) hx
    · have hlen : (rowOf us (hs[j]?.getD Hr0)).length = 2 ^ us.length := by simp [rowOf]
      rw [List.getElem?_eq_none (by omega)] at hx
      simp at hx
  · have hlen : (rowsOf us hs).length = hs.length := by simp [rowsOf]
    rw [List.getElem?_eq_none (l := rowsOf us hs) (by omega)] at hx
    simp at hx

set_option maxRecDepth 100000 in
set_option maxHeartbeats 8000000 in
theorem cdp_any (A B : Option Addr) (n c m d i : Nat) (us : List Un) (hs : List Hr) (w : World) (h : UsRaw w A n us) (h' : HsAt w B m hs) (hmd : m ≤ d) (hi : i < 256) :
    Calls Tryz.prog 6 #[.slice A n c, .slice B m d, .int .u8 (i : Int)] w fun e w' => e = .returned (.bool true) ∧ Below w.heap.size w w' := by
  have T0 := long29_any A B n c m d us hs w h h'
  have HAW := Lib.hid awake29_any
  have HH := Lib.hid h'
  cases hL : long29 us hs with
  | true =>
    rw [hL] at T0
    have HT := Lib.hid T0
    clear h h' T0 hL
    go_enter Tryz.func6, Tryz.ntmps6
    go_wp2_with fail
    refine HT.out.mono ?_
    rintro e w1 ⟨rfl, rfl⟩
    clear HT
    go_wp2_with fail
    refine (HAW.out _).mono ?_
    rintro e w2 ⟨rfl, hb2⟩
    have HB2 := Lib.hid hb2
    clear hb2
    go_wp2
    go_ret
    exact ⟨rfl, HB2.out⟩
  | false =>
    rw [hL] at T0
    obtain ⟨g1, g2, g3⟩ := long29_no hL
    obtain ⟨u1, u2, _⟩ := h.at g1
    have HT := Lib.hid T0
    have HU := Lib.hid u1
    have HO := Lib.hid g3
    have hm20 : m ≤ 20 := by have := h'.1; omega
    have HNL := Lib.hid u1.1
    have HML := Lib.hid h'.1
    clear h h' T0 hL g1 g2 g3 u1
    have HW := Lib.hid (wide29_any A B n c m d us w HU.out (by omega))
    go_enter Tryz.func6, Tryz.ntmps6
    go_wp2_with fail
    refine HT.out.mono ?_
    rintro e w1 ⟨rfl, rfl⟩
    clear HT
    go_wp2_with fail
    refine HW.out.mono ?_
    rintro e w2 ⟨b, rfl, hb2⟩
    have HB2 := Lib.hid hb2
    clear hb2 HW
    cases b with
    | true =>
      go_wp2_with fail
      refine (HAW.out _).mono ?_
      rintro e w3 ⟨rfl, hb3⟩
      have HB3 := Lib.hid (Kp.trans (show Kp w w2 from HB2.out) hb3)
      clear hb3
      go_wp2
      go_ret
      exact ⟨rfl, HB3.out⟩
    | false =>
      have hnt : (!true) = false := rfl
      by_cases hm2 : m < 2
      · have d2 : decide (m < 2) = true := by simpa using hm2
        have d2' : decide ((m : Int) < 2) = true := by simp; omega
        go_wp2_with fail
        refine (HAW.out _).mono ?_
        rintro e w3 ⟨rfl, hb3⟩
        have HB3 := Lib.hid (Kp.trans (show Kp w w2 from HB2.out) hb3)
        clear hb3
        go_wp2
        go_ret
        exact ⟨rfl, HB3.out⟩
      · have d2 : decide (m < 2) = false := by simpa using hm2
        have d2' : decide ((m : Int) < 2) = false := by simp; omega
        go_wp2_with fail
        refine (HAW.out _).mono ?_
        rintro e w3 ⟨rfl, hb3⟩
        have HB3 := Lib.hid (Kp.trans (show Kp w w2 from HB2.out) hb3)
        clear hb3 HB2 HAW
        have HT1 := Lib.hid (plan_raw A B n c m d us hs w3 (HU.out.below HB3.out) (HH.out.below HB3.out) HO.out (by omega) (by omega))
        go_wp2_with fail
        refine HT1.out.mono ?_
        rintro e w4 ⟨hb4, h4⟩
        have HB4 := Lib.hid (Kp.trans HB3.out (show Kp w3 w4 from hb4))
        clear HT1
        rcases h4 with ⟨h4, he⟩ | ⟨_, _, he⟩ | ⟨hck, ⟨c1, v1, hbv⟩, g, he, hown⟩
        · have hcb : (cchk us hs != 0) = true := by simp [h4]
          generalize cchk us hs = e0 at *
          subst he
          clear hb4 h4
          go_wp2
          go_ret
          exact ⟨rfl, HB4.out⟩
        · subst he
          clear hb4
          go_wp2
          go_ret
          exact ⟨rfl, HB4.out⟩
        · rw [HML.out] at he
          subst he
          obtain ⟨k, hmod, hk0, hkm⟩ := dp_k (m := m) (i := i) (by omega)
          obtain ⟨⟨x, y, hdp⟩, hway⟩ := plan_dp hck hbv hk0 (by rw [HML.out]; exact hkm)
          have HCK := Lib.hid hck
          have HBV := Lib.hid hbv
          have HDP := Lib.hid hdp
          have HWAY := Lib.hid hway
          have hpm := (planB_shape hbv).1.trans HML.out
          have HPL := Lib.hid (show (planB us hs).length = m ∧ ∀ r ∈ planB us hs, r.length = n from ⟨hpm, fun r hr => by rw [(planB_shape hbv).2.1 r hr]; exact HNL.out⟩)
          have HG := Lib.hid (hown.at hpm)
          obtain ⟨Lu, hlu, hsu⟩ := (HU.out.below HB4.out).src
          obtain ⟨jj, hjj, jz0, jz1, jz2⟩ := info_parts info_unit
          have HJ := Lib.hid hjj
          have JZ0 := Lib.hid jz0
          have JZ1 := Lib.hid jz1
          have JZ2 := Lib.hid jz2
          have o1 := Own.made (e := 39) (size := 9) w4 (Nat.le_refl _)
          have a1 := (Kp.refl w4).alloc (.cells #[] 39)
          have s1 := hsu.below a1
          have HLU := Lib.hid hlu
          have hmm : ((m : Int) != (m : Int)) = false := by simp
          have hm2a : ¬ m < 2 := by omega
          clear hb4 hown hck hbv hlu hsu hjj jz0 jz1 jz2 hdp hway hpm
          go_wp2_with (first
            | (at_builtin; refine wpList_append_my rfl (base := w4.heap.size) (e := 39) (size := 9) (bytes := 88) (.tmp 63) (.tmp 64) 22 rfl Tryz.underlying22 HJ.out JZ0.out JZ1.out JZ2.out rfl (by decide) (xs := []) (news := Lu) rfl (by exact o1) rfl (by exact s1) (by simp only [maxLen]; omega) (by omega) (by simp) ?_
               intro B5 cb5 w5 hO5 hb5 hk5
               simp only [Nat.zero_add, List.nil_append] at hO5
               have HA5 := Lib.hid (And.intro hO5 (show Kp w4 w5 from Below.trans a1 hb5))
               clear hO5 hb5 hk5))
          have HST := Lib.hid (show Dcp w4 us n (after us (initS us) ((planB us hs).take k)) B5 0 w5 by
            obtain ⟨q1, q2⟩ := HA5.out
            refine ⟨q2, fun hn => ?_⟩
            obtain ⟨g4, c4, e4, b4, d4, f4⟩ := UsB.of q1 HLU.out HNL.out hn
            have e : onF us (after us (initS us) ((planB us hs).take k)) 0 = fun j => us[j]?.getD U0 := by funext j; simp [onF]
            exact ⟨g4, c4, e4, b4, d4, by rw [e]; exact f4⟩)
          clear o1 a1 s1 HA5
          go_loopw [11] (fun t wr => ∃ j : Nat, j ≤ n ∧ t = .int .i64 j ∧ Hid (Dcp w4 us n (after us (initS us) ((planB us hs).take k)) B5 j wr)) (fun t _ => n - (intOf t).toNat)
          case atStart => exact ⟨0, Nat.zero_le _, rfl, HST.out⟩
          case round =>
            clear HST
            obtain ⟨j, hj, rfl, hR⟩ := hrel
            obtain ⟨wv, rfl⟩ : ∃ v, v = wr := ⟨_, rfl⟩
            by_cases hlt : j < n
            · obtain ⟨g4, _, e4, _⟩ := hR.out.2 (by omega)
              subst e4
              obtain ⟨bu, ou, rfl, hbu, hcu⟩ := HU.out.2 (by omega)
              have hw := Kp.trans HB4.out hR.out.1
              have hkl : j < us.length := by rw [HNL.out]; exact hlt
              have huv := (cchk_ok.1 HCK.out).2.1 _ (gmem (d := U0) hkl)
              have hu0 := hcu j hlt
              have HIN := Lib.hid (show uinit (us[j]?.getD U0) = (after us (initS us) ((planB us hs).take 0))[j]?.getD 0 by rw [List.take_zero]; exact (initS_get hkl).symm)
              have HWJ := Lib.hid (fun h hh => HWAY.out h hh j hkl)
              generalize us[j]?.getD U0 = u at *
              obtain ⟨bus, mn, st, up, dn, start, idle, spin, on⟩ := u
              obtain ⟨A', n', c', ⟨h0, h1, h2, h3, h4, h5', h6, h7, h8⟩, hst, hn'⟩ := hu0
              simp only at h0 h1 h2 h3 h4 h5' h6 h7 h8 hst
              have HC9 := Lib.hid (fun (w' : World) (hk : Kp w w') => (show w'.cell? ⟨bu, ou + j * 9, none⟩ = some (.int .i64 bus) ∧ w'.cell? ⟨bu, ou + j * 9 + 1, none⟩ = some (.int .i64 mn) ∧ w'.cell? ⟨bu, ou + j * 9 + 2, none⟩ = some (.slice A' n' c') ∧ w'.cell? ⟨bu, ou + j * 9 + 3, none⟩ = some (.int .i64 up) ∧ w'.cell? ⟨bu, ou + j * 9 + 4, none⟩ = some (.int .i64 dn) ∧ w'.cell? ⟨bu, ou + j * 9 + 5, none⟩ = some (.int .i64 start) ∧ w'.cell? ⟨bu, ou + j * 9 + 6, none⟩ = some (.int .i64 idle) ∧ w'.cell? ⟨bu, ou + j * 9 + 7, none⟩ = some (.int .i64 spin) ∧ w'.cell? ⟨bu, ou + j * 9 + 8, none⟩ = some (.int .i64 on) from ⟨(Below.cell hk (p := ⟨bu, ou + j * 9, none⟩) hbu).trans h0, (Below.cell hk (p := ⟨bu, ou + j * 9 + 1, none⟩) hbu).trans h1, (Below.cell hk (p := ⟨bu, ou + j * 9 + 2, none⟩) hbu).trans h2, (Below.cell hk (p := ⟨bu, ou + j * 9 + 3, none⟩) hbu).trans h3, (Below.cell hk (p := ⟨bu, ou + j * 9 + 4, none⟩) hbu).trans h4, (Below.cell hk (p := ⟨bu, ou + j * 9 + 5, none⟩) hbu).trans h5', (Below.cell hk (p := ⟨bu, ou + j * 9 + 6, none⟩) hbu).trans h6, (Below.cell hk (p := ⟨bu, ou + j * 9 + 7, none⟩) hbu).trans h7, (Below.cell hk (p := ⟨bu, ou + j * 9 + 8, none⟩) hbu).trans h8⟩))
              have TI := Lib.hid (uInitial_raw bus mn up dn start idle spin on A' n' c' st wv (hst.below hw) hn' huv)
              have TN := Lib.hid (fun (s : Int) (b : Bool) (W : World) (hk : Kp w W) (hs : StOk (⟨bus, mn, st, up, dn, start, idle, spin, on⟩ : Un) s) => uNext_raw bus mn up dn start idle spin on A' n' c' st s b W (hst.below hk) hn' huv hs)
              obtain ⟨v0, v1', v2, v3, v4, v5, v6, v7, v8⟩ := HC9.out wv hw
              have j1 : (0 : Int) ≤ (j : Int) := by omega
              have j2 : (j : Int) < (n : Int) := by omega
              generalize hui : uinit (⟨bus, mn, st, up, dn, start, idle, spin, on⟩ : Un) = t0 at *
              have HR := Lib.hid hR.out
              have HNN := Lib.hid (show n ≠ 0 by omega)
              clear hR hcu hst hn' huv hw hkl h0 h1 h2 h3 h4 h5' h6 h7 h8 hui
              go_wp2_with fail
              refine TI.out.mono ?_
              rintro e w6 ⟨rfl, hb6⟩
              have HD6 := Lib.hid (HR.out.keep hb6)
              clear TI hb6 v0 v1' v2 v3 v4 v5 v6 v7 v8
              go_wp2_with fail
              go_loopw [12, 13] (fun ts th wr => ∃ (h : Nat) (s : Int), h ≤ k ∧ th = .int .i64 h ∧ ts = .int .i64 s ∧ Hid (s = (after us (initS us) ((planB us hs).take h))[j]?.getD 0 ∧ Dcp w4 us n (after us (initS us) ((planB us hs).take k)) (some ⟨g4, 0, none⟩) j wr)) (fun _ t _ => k - (intOf t).toNat)
              case atStart => exact ⟨0, t0, Nat.zero_le _, rfl, rfl, HIN.out, HD6.out⟩
              case round =>
                clear HD6
                obtain ⟨q, s, hq, rfl, rfl, hR⟩ := hrel
                obtain ⟨wx, rfl⟩ : ∃ v, v = wr := ⟨_, rfl⟩
                by_cases hlq : q < k
                · obtain ⟨hs1, hs2⟩ := HWJ.out q hlq
                  have kx := Kp.trans HB4.out hR.out.2.1
                  obtain ⟨bg, og, heg, hbg, hcg⟩ := HG.out.2 (by omega)
                  obtain ⟨Ag, ng, cg, a0, a1⟩ := hcg q (by omega)
                  obtain ⟨rfl, rfl⟩ : g = bg ∧ og = 0 := by simp only [Option.some.injEq, Addr.mk.injEq] at heg; exact ⟨heg.1, heg.2.1.symm⟩
                  obtain rfl : n = ng := by rw [← a1.1]; exact (HPL.out.2 _ (gmem (d := []) (by rw [HPL.out.1]; omega))).symm
                  simp only [Nat.zero_add] at a0
                  obtain ⟨br, or, rfl, hbr, hcr⟩ := a1.2 HNN.out
                  have kx4 := hR.out.2.1
                  have y0 := (Below.cell kx4 (p := ⟨g, q, none⟩) hbg).trans a0
                  have y1 := (Below.cell kx4 (p := ⟨br, or + j, none⟩) hbr).trans (hcr j hlt)
                  rw [← hR.out.1] at hs1 hs2
                  have T := TN.out s (((planB us hs)[q]?.getD [])[j]?.getD false)
                  rw [hs2] at T
                  have HS1 := Lib.hid hs1
                  have HTT := Lib.hid (fun (W : World) (hk : Kp wx W) => T W (Kp.trans kx hk) HS1.out)
                  have HSN := Lib.hid (show (some ((after us (initS us) ((planB us hs).take (q + 1)))[j]?.getD 0)).getD 0 = (after us (initS us) ((planB us hs).take (q + 1)))[j]?.getD 0 from rfl)
                  generalize (some ((after us (initS us) ((planB us hs).take (q + 1)))[j]?.getD 0)).getD 0 = s2 at HTT HSN
                  generalize (some ((after us (initS us) ((planB us hs).take (q + 1)))[j]?.getD 0)).isSome = ok at HTT
                  generalize ((planB us hs)[q]?.getD [])[j]?.getD false = pb at HTT y1
                  have hnn : ((n : Int) != (n : Int)) = false := by simp
                  have HS := Lib.hid (show ∀ w', Kp wx w' → ((w'.cell? ⟨bu, ou + j * 9, none⟩ = some (.int .i64 bus) ∧ w'.cell? ⟨bu, ou + j * 9 + 1, none⟩ = some (.int .i64 mn) ∧ w'.cell? ⟨bu, ou + j * 9 + 2, none⟩ = some (.slice A' n' c') ∧ w'.cell? ⟨bu, ou + j * 9 + 3, none⟩ = some (.int .i64 up) ∧ w'.cell? ⟨bu, ou + j * 9 + 4, none⟩ = some (.int .i64 dn) ∧ w'.cell? ⟨bu, ou + j * 9 + 5, none⟩ = some (.int .i64 start) ∧ w'.cell? ⟨bu, ou + j * 9 + 6, none⟩ = some (.int .i64 idle) ∧ w'.cell? ⟨bu, ou + j * 9 + 7, none⟩ = some (.int .i64 spin) ∧ w'.cell? ⟨bu, ou + j * 9 + 8, none⟩ = some (.int .i64 on)) ∧ w'.cell? ⟨g, q, none⟩ = some (.slice (some ⟨br, or, none⟩) n cg) ∧ w'.cell? ⟨br, or + j, none⟩ = some (.bool pb)) ∧ Kp wx w' from fun w' hk => ⟨⟨HC9.out w' (Kp.trans kx hk), (Below.cell hk (p := ⟨g, q, none⟩) (Nat.lt_of_lt_of_le hbg kx4.size)).trans y0, (Below.cell hk (p := ⟨br, or + j, none⟩) (Nat.lt_of_lt_of_le hbr kx4.size)).trans y1⟩, hk⟩)
                  have hk0 := Kp.refl wx
                  have q1 : (0 : Int) ≤ (q : Int) := by omega
                  have q2 : (q : Int) < (m : Int) := by omega
                  have q3 : (q : Int) < (k : Int) := by omega
                  have HRX := Lib.hid hR.out
                  clear hR hs1 hs2 kx heg hbg hcg a0 a1 hbr hcr kx4 T y1
                  go_wp2_with fail
                  go_region_held3 (fun w' => ((w'.cell? ⟨bu, ou + j * 9, none⟩ = some (.int .i64 bus) ∧ w'.cell? ⟨bu, ou + j * 9 + 1, none⟩ = some (.int .i64 mn) ∧ w'.cell? ⟨bu, ou + j * 9 + 2, none⟩ = some (.slice A' n' c') ∧ w'.cell? ⟨bu, ou + j * 9 + 3, none⟩ = some (.int .i64 up) ∧ w'.cell? ⟨bu, ou + j * 9 + 4, none⟩ = some (.int .i64 dn) ∧ w'.cell? ⟨bu, ou + j * 9 + 5, none⟩ = some (.int .i64 start) ∧ w'.cell? ⟨bu, ou + j * 9 + 6, none⟩ = some (.int .i64 idle) ∧ w'.cell? ⟨bu, ou + j * 9 + 7, none⟩ = some (.int .i64 spin) ∧ w'.cell? ⟨bu, ou + j * 9 + 8, none⟩ = some (.int .i64 on)) ∧ w'.cell? ⟨g, q, none⟩ = some (.slice (some ⟨br, or, none⟩) n cg) ∧ w'.cell? ⟨br, or + j, none⟩ = some (.bool pb)) ∧ Kp wx w')
                    (first | (with_reducible refine HS.out _ ?_; with_reducible assumption) | (with_reducible refine HS.out _ (Kp.drew ?_); with_reducible assumption) | (with_reducible refine' HS.out _ (Kp.drew (And.right ?_)); rotate_left; with_reducible assumption))
                    (first
                      | (go_at_call 21; have hk := And.right ‹_ ∧ Kp wx _›; refine (HTT.out _ hk).mono ?_; rintro e w7 ⟨rfl, hb7⟩; have hk7 := Kp.trans hk hb7; clear hk hb7))
                  all_goals (
                    have HN := Lib.hid (And.intro HSN.out (HRX.out.2.keep hk7))
                    clear hk7 hk0 HS y0
                    go_wp2
                    go_roundw
                    case rel => exact ⟨q + 1, s2, by omega, by go_num, rfl, HN.out.1, HN.out.2⟩
                    case measure => simp [intOf]; omega)
                · obtain rfl : k = q := by omega
                  obtain ⟨⟨⟨y8, f8⟩, f9⟩, hN⟩ := hR.out.2.step hlt
                  rw [← hR.out.1] at hN
                  have HN := Lib.hid hN
                  clear hR hN
                  go_wp2
                  go_roundw
                  case rel => exact ⟨j + 1, by omega, by go_num, HN.out⟩
                  case measure => simp [intOf]; omega
            · obtain rfl : n = j := by omega
              go_wp2_with fail
              have HUL := Lib.hid (hR.out.us HNL.out)
              have kv : Kp w wv := Kp.trans HB4.out hR.out.1
              have HKV := Lib.hid kv
              have HG0 := Lib.hid (HG.out.below hR.out.1)
              have T2 := ccost_raw A B (some ⟨g, 0, none⟩) n c m d m m us hs (planB us hs) wv (HU.out.below kv) (HH.out.below kv) HG0.out HO.out (by omega) (by omega)
              rw [costV_plan HCK.out HBV.out] at T2
              have HT2 := Lib.hid T2
              obtain ⟨ih, hih, hy0, hy1, hy2⟩ := info_parts info_hour
              obtain ⟨ib, hib, hx0, hx1, hx2⟩ := info_parts info_bools
              obtain ⟨B1, hB1, eB1⟩ := slice_lo Tryz.underlying23 hih B m d k (by omega)
              obtain ⟨P1, hP1, eP1⟩ := slice_lo Tryz.underlying24 hib (some ⟨g, 0, none⟩) m m k (by omega)
              obtain ⟨B2, hB2, eB2⟩ := slice_hi Tryz.underlying23 hih B m d k (by omega) hmd
              obtain ⟨P2, hP2, eP2⟩ := slice_hi Tryz.underlying24 hib (some ⟨g, 0, none⟩) m m k (by omega) (Nat.le_refl _)
              rw [hy1] at eB2
              rw [hx1] at eP2
              have HPA := Lib.hid (show (∀ W, Kp wv W → HsAt W B1 k (hs.take k) ∧ PlAt W P1 k ((planB us hs).take k) ∧ HsAt W B2 (m - k) (hs.drop k) ∧ PlAt W P2 (m - k) ((planB us hs).drop k)) from fun W hk => by
                have e1 := (HH.out.below HKV.out).below hk
                have e2 := HG0.out.below hk
                have e3 : HsAt W B1 k (hs.take k) := by
                  have := e1.take (show k ≤ m by omega)
                  obtain ⟨b, o, e, _⟩ := e1.2 (show m ≠ 0 by omega)
                  rw [eB1 b o e, ← e]
                  exact this
                have e4 : PlAt W P1 k ((planB us hs).take k) := by
                  have := e2.take (show k ≤ m by omega)
                  rw [eP1 g 0 rfl]
                  exact this
                exact ⟨e3, e4, e1.drop hkm (eB2 hkm), e2.drop hkm (fun b o e => by have := eP2 hkm b o e; rwa [Nat.mul_one] at this)⟩)
              have HHO := Lib.hid (show HsOk (hs.take k) ∧ HsOk (hs.drop k) from ⟨fun h hh => HO.out h (List.mem_of_mem_take hh), fun h hh => HO.out h (List.mem_of_mem_drop hh)⟩)
              have hfr : costV us (hs.take k) ((planB us hs).take k) = (y, 0) := costV_of HDP.out.ok1 (by rw [List.length_take, List.length_take, HPL.out.1, HML.out]) (fun r hr => by rw [HPL.out.2 r (List.mem_of_mem_take hr)]; exact HNL.out.symm) HDP.out.front
              have HT3 := Lib.hid (fun (W : World) (hk : Kp wv W) => (show Calls Tryz.prog 13 #[.slice A n c, .slice B1 k d, .slice P1 k m] W fun e w' => e = .returned (.tuple #[.int .i64 y, .int .i64 0]) ∧ Below W.heap.size W w' from by
                have := ccost_raw A B1 P1 n c k d k m us (hs.take k) ((planB us hs).take k) W (HU.out.below (Kp.trans HKV.out hk)) (HPA.out W hk).1 (HPA.out W hk).2.1 HHO.out.1 (by omega) (by omega)
                rw [hfr] at this
                exact this))
              have hvb := best_bd29 HCK.out HBV.out
              have hsum : IntKind.i64.wrap (y + x) = v1 := by rw [← HDP.out.sum]; exact IntWalk.i64_in _ (by omega)
              have hvv : (v1 == v1) = true := by simp
              clear hR kv T2 hih hy0 hy1 hy2 hib hx0 hx1 hx2 eB1 eP1 eB2 eP2 hfr hvb
              refine HT2.out.mono ?_
              rintro e w6 ⟨rfl, hb6⟩
              have HB6 := Lib.hid (show Kp wv w6 from hb6)
              have hk0 := Kp.refl w6
              have HS := Lib.hid (show ∀ w', Kp w6 w' → True ∧ Kp w6 w' from fun w' hk => ⟨trivial, hk⟩)
              have HT3b := Lib.hid (fun (W : World) (hk : Kp w6 W) => HT3.out W (Kp.trans HB6.out hk))
              clear HT2 hb6 HT3
              go_wp2_with fail
              go_region_held3 (fun w' => True ∧ Kp w6 w')
                (first | (with_reducible refine HS.out _ ?_; with_reducible assumption) | (with_reducible refine HS.out _ (Kp.drew ?_); with_reducible assumption) | (with_reducible refine' HS.out _ (Kp.drew (And.right ?_)); rotate_left; with_reducible assumption))
                (first
                  | (go_at_call 13; have hk := And.right ‹_ ∧ Kp w6 _›; refine (HT3b.out _ hk).mono ?_; rintro e w7 ⟨rfl, hb7⟩; have hk7 := Kp.trans hk hb7; clear hk hb7))
              all_goals (
                have HB7 := Lib.hid (Kp.trans HB6.out hk7)
                clear hk7 hk0 HS HT3b
                have HT4 := Lib.hid (plan_raw B5 B2 n cb5 (m - k) (d - k) (setOn us (after us (initS us) ((planB us hs).take k))) (hs.drop k) w7 (HUL.out.below HB7.out) (HPA.out w7 HB7.out).2.2.1 HHO.out.2 (by omega) (by omega))
                go_wp2_with fail
                refine HT4.out.mono ?_
                rintro e w8 ⟨hb8, h8⟩
                obtain ⟨cq, hbq⟩ := HDP.out.best
                rcases h8 with ⟨h8, he⟩ | ⟨_, h8, he⟩ | ⟨_, _, g3, he, hown⟩
                · exact absurd HDP.out.ok2 h8
                · rw [hbq] at h8
                  simp at h8
                · rw [show (hs.drop k).length = m - k by rw [List.length_drop, HML.out]] at he
                  subst he
                  have HB8 := Lib.hid (Kp.trans HB7.out (show Kp w7 w8 from hb8))
                  have HG3 := Lib.hid (hown.at (show (planB (setOn us (after us (initS us) ((planB us hs).take k))) (hs.drop k)).length = m - k by rw [(planB_shape hbq).1, List.length_drop, HML.out]))
                  have T5 := ccost_raw B5 B2 (some ⟨g3, 0, none⟩) n cb5 (m - k) (d - k) (m - k) (m - k) (setOn us (after us (initS us) ((planB us hs).take k))) (hs.drop k) (planB (setOn us (after us (initS us) ((planB us hs).take k))) (hs.drop k)) w8 (HUL.out.below HB8.out) (HPA.out w8 HB8.out).2.2.1 HG3.out HHO.out.2 (by omega) (by omega)
                  rw [costV_plan HDP.out.ok2 hbq] at T5
                  have HT5 := Lib.hid T5
                  have HT6 := Lib.hid (fun (W : World) (hk : Kp w8 W) => (show Calls Tryz.prog 15 #[.slice (some ⟨g3, 0, none⟩) (m - k) (m - k), .slice P2 (m - k) (m - k)] W fun e w' => e = .returned (.bool true) ∧ Below W.heap.size W w' from by
                    have := sameAll_any (some ⟨g3, 0, none⟩) P2 (m - k) (m - k) (m - k) (m - k) (planB (setOn us (after us (initS us) ((planB us hs).take k))) (hs.drop k)) ((planB us hs).drop k) W (HG3.out.below hk) (HPA.out W (Kp.trans HB8.out hk)).2.2.2 (planB_ok hbq (by rw [setOn_len, HNL.out]; omega)) (fun r hr => by rw [HPL.out.2 r (List.mem_of_mem_drop hr)]; omega) (by omega) (by omega)
                    rw [decide_eq_true HDP.out.plan] at this
                    exact this))
                  clear hb8 hown hbq T5 HT4
                  go_wp2_with fail
                  refine HT5.out.mono ?_
                  rintro e w9 ⟨rfl, hb9⟩
                  have HB9 := Lib.hid (show Kp w8 w9 from hb9)
                  clear HT5 hb9
                  go_wp2_with fail
                  refine (HT6.out w9 HB9.out).mono ?_
                  rintro e w10 ⟨rfl, hb10⟩
                  have HF := Lib.hid (show Kp w w10 from Kp.trans HKV.out (Kp.trans HB8.out (Kp.trans HB9.out hb10)))
                  clear HT6 hb10
                  go_wp2
                  go_ret
                  exact ⟨rfl, HF.out⟩)

end Go.Proofs.YtdoeejcmaeefcaaGreat
