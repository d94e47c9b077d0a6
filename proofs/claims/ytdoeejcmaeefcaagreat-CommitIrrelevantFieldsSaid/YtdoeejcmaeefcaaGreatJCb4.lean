/-
The statement CommitIrrelevantFields: the walk. No statement of the seat is proved here; no conditions beyond those of each theorem.
-/
import Derived.Test.YtdoeejcmaeefcaaGreatHU
import Derived.Test.YtdoeejcmaeefcaaGreatIB
import Derived.Test.YtdoeejcmaeefcaaGreatJCc1
namespace Go.Proofs.YtdoeejcmaeefcaaGreat
set_option linter.unusedVariables false
set_option linter.unusedSimpArgs false
open Go.RowKit
open Wd
open Cm

/-- Units of which the first i have another bus and spin. -/
def chF (us : List Un) (x z : Int) (i j : Nat) : Un := if j < i then { (us[j]?.getD U0) with bus := x, spin := z } else us[j]?.getD U0
theorem uchk_bs {u : Un} (h : uchk u = 0) {x z : Int} (h1 : 0 ≤ x) (h2 : x < 6) (h3 : 0 ≤ z) (h4 : z ≤ 1000000) : uchk { u with bus := x, spin := z } = 0 := by
  unfold uchk at h ⊢
  split at h
  · simp at h
  · rw [if_neg (by simp only; omega)]
    split at h
    · rename_i g2; exact absurd h g2
    · rename_i g2
      rw [if_neg g2]
      split at h
      · simp at h
      · rename_i g3
        rw [if_neg g3]
        split at h
        · simp at h
        · rename_i g4
          rw [if_neg]
          unfold uRest at g4 ⊢
          simp only at g4 ⊢
          omega
theorem chF_same {us : List Un} {n : Nat} {x z : Int} (hn : us.length = n) (hu : ∀ u ∈ us, uchk u = 0) (h1 : 0 ≤ x) (h2 : x < 6) (h3 : 0 ≤ z) (h4 : z ≤ 1000000) : SameUs us ((List.range n).map (chF us x z n)) ∧ (∀ u ∈ (List.range n).map (chF us x z n), uchk u = 0) ∧ ∀ i : Nat, (us[i]?.getD U0).on = (((List.range n).map (chF us x z n))[i]?.getD U0).on := by
  have hget : ∀ j, j < n → ((List.range n).map (chF us x z n))[j]?.getD U0 = { (us[j]?.getD U0) with bus := x, spin := z } := fun j hj => by simp [hj, chF]
  refine ⟨⟨by simp [hn], fun i => ?_⟩, fun u hum => ?_, fun i => ?_⟩
  · by_cases hi : i < n
    · rw [hget i hi]
      exact ⟨rfl, rfl, rfl, rfl, rfl, rfl⟩
    · rw [List.getElem?_eq_none (by omega), List.getElem?_eq_none (by simp; omega)]
      exact ⟨rfl, rfl, rfl, rfl, rfl, rfl⟩
  · obtain ⟨j, hj, rfl⟩ := List.mem_map.1 hum
    have hj := List.mem_range.1 hj
    unfold chF
    rw [if_pos hj]
    exact uchk_bs (hu _ (gmem (by omega))) h1 h2 h3 h4
  · by_cases hi : i < n
    · rw [hget i hi]
    · rw [List.getElem?_eq_none (by omega), List.getElem?_eq_none (by simp; omega)]
theorem chF_plan {us : List Un} {hs : List Hr} {n : Nat} {x z : Int} (hn : us.length = n) (hc : cchk us hs = 0) (h1 : 0 ≤ x) (h2 : x < 6) (h3 : 0 ≤ z) (h4 : z ≤ 1000000) : cchk ((List.range n).map (chF us x z n)) hs = 0 ∧ bestV us hs = bestV ((List.range n).map (chF us x z n)) hs ∧ planB us hs = planB ((List.range n).map (chF us x z n)) hs := by
  obtain ⟨k1, k2, k3, k4, k5⟩ := cchk_ok.1 hc
  obtain ⟨s1, s2, s3⟩ := chF_same hn k2 h1 h2 h3 h4
  exact ⟨cchk_ok.2 ⟨by rw [← s1.1]; exact k1, s2, k3, k4, k5⟩, plan_same s1 k1 k2 s2 s3⟩
theorem UsB.two {w0 : World} {us : List Un} {n k : Nat} {x z : Int} {cur : Array Value} (h : UsB w0 (chF us x z k) n cur) (hk : k < n) : UsB w0 (chF us x z (k + 1)) n ((cur.setIfInBounds (k * 9) (.int .i64 x)).setIfInBounds (k * 9 + 7) (.int .i64 z)) := by
  have h1 := h.set (G := fun j => if j = k then { (us[k]?.getD U0) with bus := x } else chF us x z k j) (x := x) hk (Or.inl rfl) (fun j hj => if_neg hj) (fun _ => by simp [chF]) (fun e => absurd e (by decide)) (fun e => absurd e (by decide))
  rw [Nat.add_zero] at h1
  refine h1.set (G := chF us x z (k + 1)) (x := z) hk (Or.inr (Or.inl rfl)) (fun j hj => ?_) (fun e => absurd e (by decide)) (fun _ => ?_) (fun e => absurd e (by decide))
  · rw [if_neg hj]
    unfold chF
    by_cases hjk : j < k
    · rw [if_pos hjk, if_pos (by omega)]
    · rw [if_neg hjk, if_neg (by omega)]
  · simp [chF]
theorem UsB.start {w0 : World} {us : List Un} {n : Nat} {x z : Int} {cur : Array Value} (h : UsB w0 (fun j => us[j]?.getD U0) n cur) : UsB w0 (chF us x z 0) n cur := by
  have e : chF us x z 0 = fun j => us[j]?.getD U0 := by funext j; simp [chF]
  rw [e]
  exact h
/-- The copies in memory. -/
def Icp (w0 : World) (us : List Un) (hs : List Hr) (n m : Nat) (x z : Int) (B4 : Option Addr) (g5 : Nat) (i : Nat) (wr : World) : Prop :=
  Kp w0 wr ∧ (∃ cur, Blk wr g5 46 cur ∧ HsB w0 (fun j => hs[j]?.getD Hr0) m cur) ∧ w0.heap.size ≤ g5 ∧ (n ≠ 0 → ∃ g4 cur, B4 = some ⟨g4, 0, none⟩ ∧ w0.heap.size ≤ g4 ∧ Blk wr g4 39 cur ∧ UsB w0 (chF us x z i) n cur)
theorem Icp.us {w0 : World} {us : List Un} {hs : List Hr} {n m : Nat} {x z : Int} {B4 : Option Addr} {g5 : Nat} {i : Nat} {wr : World} (h : Icp w0 us hs n m x z B4 g5 i wr) : UsAt wr B4 n ((List.range n).map (chF us x z i)) := by
  obtain ⟨h1, h2, h3, h4⟩ := h
  by_cases hn : n = 0
  · subst hn
    exact ⟨by simp, fun h => absurd rfl h⟩
  · obtain ⟨g4, cur, rfl, _, q1, q2⟩ := h4 hn
    exact q2.us q1 h1
theorem Icp.hs {w0 : World} {us : List Un} {hs : List Hr} {n m : Nat} {x z : Int} {B4 : Option Addr} {g5 : Nat} {i : Nat} {wr : World} (h : Icp w0 us hs n m x z B4 g5 i wr) (hm : hs.length = m) : HsAt wr (some ⟨g5, 0, none⟩) m hs := by
  obtain ⟨h1, ⟨cur, h2, h3⟩, _, _⟩ := h
  have := h3.hs h2 h1
  rwa [range_hs hm] at this
theorem Icp.step {w0 : World} {us : List Un} {hs : List Hr} {n m : Nat} {x z : Int} {g5 g4 : Nat} {i : Nat} {wr : World} (h : Icp w0 us hs n m x z (some ⟨g4, 0, none⟩) g5 i wr) (hi : i < n) :
    ((∃ v, wr.cell? ⟨g4, i * 9, none⟩ = some v) ∧ (∃ v, wr.cell? ⟨g4, i * 9 + 7, none⟩ = some v) ∧ wr.frozen? ⟨g4, i * 9, none⟩ = false ∧ wr.frozen? ⟨g4, i * 9 + 7, none⟩ = false) ∧ Icp w0 us hs n m x z (some ⟨g4, 0, none⟩) g5 (i + 1) ((wr.setCell ⟨g4, i * 9, none⟩ (.int .i64 x)).setCell ⟨g4, i * 9 + 7, none⟩ (.int .i64 z)) := by
  obtain ⟨h1, ⟨ch, h2, h3⟩, h4, h5⟩ := h
  obtain ⟨g, cur, e, h6, h7, h8⟩ := h5 (by omega)
  simp only [Option.some.injEq, Addr.mk.injEq, and_true] at e
  subst e
  have hne := Blk.apart h2 h7 (by decide)
  obtain ⟨v0, e0⟩ := h8.cell hi (i := 0) (by omega)
  obtain ⟨v7, e7⟩ := h8.cell hi (i := 7) (by omega)
  refine ⟨⟨⟨v0, (h7.cell _).trans e0⟩, ⟨v7, (h7.cell _).trans e7⟩, h7.frozen _, h7.frozen _⟩, (h1.set (p := ⟨g4, i * 9, none⟩) h6 _).set (p := ⟨g4, i * 9 + 7, none⟩) h6 _, ⟨ch, (h2.far (p := ⟨g4, i * 9, none⟩) hne _).far (p := ⟨g4, i * 9 + 7, none⟩) hne _, h3⟩, h4, fun _ => ⟨g4, _, rfl, h6, (h7.set _ _).set _ _, h8.two hi⟩⟩
theorem Icp.real {w0 : World} {us : List Un} {hs : List Hr} {n m : Nat} {x z : Int} {B4 : Option Addr} {g5 : Nat} {i k : Nat} {wr : World} (h : Icp w0 us hs n m x z B4 g5 i wr) (hk : k < m) (A : Option Addr) (nr cr : Nat) :
    ((∃ v, wr.cell? ⟨g5, k * 3 + 1, none⟩ = some v) ∧ wr.frozen? ⟨g5, k * 3 + 1, none⟩ = false) ∧ Icp w0 us hs n m x z B4 g5 i (wr.setCell ⟨g5, k * 3 + 1, none⟩ (.slice A nr cr)) := by
  obtain ⟨h1, ⟨ch, h2, h3⟩, h4, h5⟩ := h
  obtain ⟨v, e⟩ := h3.cell hk (i := 1) (by omega)
  refine ⟨⟨⟨v, (h2.cell _).trans e⟩, h2.frozen _⟩, h1.set (p := ⟨g5, k * 3 + 1, none⟩) h4 _, ⟨_, h2.set _ _, h3.real hk A nr cr⟩, h4, fun hn => ?_⟩
  obtain ⟨g4, cur, e4, h6, h7, h8⟩ := h5 hn
  exact ⟨g4, cur, e4, h6, h7.far (p := ⟨g5, k * 3 + 1, none⟩) (Blk.apart h7 h2 (by decide)) _, h8⟩

set_option maxRecDepth 100000 in
set_option maxHeartbeats 8000000 in
theorem cirrel_any (A B : Option Addr) (n c m d : Nat) (R : Option Addr) (nr cr i z : Nat) (us : List Un) (hs : List Hr) (w : World) (h : UsRaw w A n us) (h' : HsAt w B m hs) (hi : i < 256) (hz : z < 65536) :
    Calls Tryz.prog 9 #[.slice A n c, .slice B m d, .slice R nr cr, .int .u8 (i : Int), .int .u16 (z : Int)] w fun e w' => e = .returned (.bool true) ∧ Below w.heap.size w w' := by
  have T0 := long29_any A B n c m d us hs w h h'
  have HAW := Lib.hid awake29_any
  have HH := Lib.hid h'
  cases hL : long29 us hs with
  | true =>
    rw [hL] at T0
    have HT := Lib.hid T0
    clear h h' T0 hL
    go_enter Tryz.func9, Tryz.ntmps9
    go_wp2_with fail
    refine HT.out.mono ?_
    rintro e w1 ⟨rfl, rfl⟩
    clear HT
    go_wp2_with fail
    refine (HAW.out _).mono ?_
    rintro e w2 ⟨rfl, hb2⟩
    have HB2 := Lib.hid hb2
    clear hb2
    go_wp2
    go_ret
    exact ⟨rfl, HB2.out⟩
  | false =>
    rw [hL] at T0
    obtain ⟨g1, g2, g3⟩ := long29_no hL
    obtain ⟨u1, u2, _⟩ := h.at g1
    have HT := Lib.hid T0
    have HU := Lib.hid u1
    have HO := Lib.hid g3
    have hm20 : m ≤ 20 := by have := h'.1; omega
    have HNL := Lib.hid u1.1
    have HML := Lib.hid h'.1
    clear h h' T0 hL g1 g2 g3 u1
    have HW := Lib.hid (wide29_any A B n c m d us w HU.out (by omega))
    have HCC := Lib.hid (fun W (hk : Kp w W) => ccheck_raw A B n c m d us hs W (HU.out.below hk) (HH.out.below hk) HO.out (by omega) (by omega))
    go_enter Tryz.func9, Tryz.ntmps9
    go_wp2_with fail
    refine HT.out.mono ?_
    rintro e w1 ⟨rfl, rfl⟩
    clear HT
    go_wp2_with fail
    refine HW.out.mono ?_
    rintro e w2 ⟨b, rfl, hb2⟩
    have HB2 := Lib.hid hb2
    clear hb2 HW
    cases b with
    | true =>
      go_wp2_with fail
      refine (HAW.out _).mono ?_
      rintro e w3 ⟨rfl, hb3⟩
      have HB3 := Lib.hid (Kp.trans (show Kp w w2 from HB2.out) hb3)
      clear hb3
      go_wp2
      go_ret
      exact ⟨rfl, HB3.out⟩
    | false =>
      have hnt : (!true) = false := rfl
      by_cases hcc : cchk us hs ≠ 0
      · have T7 := HCC.out w2 HB2.out
        have hcn : (cchk us hs != 0) = true := by simp [hcc]
        generalize cchk us hs = e0 at *
        have HT7 := Lib.hid T7
        clear T7 hcc
        go_wp2_with fail
        refine HT7.out.mono ?_
        rintro e w2b ⟨rfl, hb2b⟩
        replace HB2 := Lib.hid (Kp.trans (show Kp w w2 from HB2.out) hb2b)
        clear hb2b HT7
        obtain ⟨w2, rfl⟩ : ∃ v, v = w2b := ⟨_, rfl⟩
        go_wp2_with fail
        refine (HAW.out _).mono ?_
        rintro e w3 ⟨rfl, hb3⟩
        have HB3 := Lib.hid (Kp.trans (show Kp w w2 from HB2.out) hb3)
        clear hb3
        go_wp2
        go_ret
        exact ⟨rfl, HB3.out⟩
      · have hck : cchk us hs = 0 := Classical.not_not.1 hcc
        have HCK := Lib.hid hck
        have hm0 : m ≠ 0 := by rw [← HML.out]; exact (cchk_ok.1 hck).2.2.1
        have T7 := HCC.out w2 HB2.out
        rw [hck] at T7
        have HT7 := Lib.hid T7
        clear T7 hcc hck
        go_wp2_with fail
        refine HT7.out.mono ?_
        rintro e w2b ⟨rfl, hb2b⟩
        replace HB2 := Lib.hid (Kp.trans (show Kp w w2 from HB2.out) hb2b)
        clear hb2b HT7
        obtain ⟨w2, rfl⟩ : ∃ v, v = w2b := ⟨_, rfl⟩
        go_wp2_with fail
        refine (HAW.out _).mono ?_
        rintro e w3 ⟨rfl, hb3⟩
        have HB3 := Lib.hid (Kp.trans (show Kp w w2 from HB2.out) hb3)
        clear hb3 HB2 HAW
        obtain ⟨X, hX, hX0, hX6⟩ : ∃ X : Int, (i : Int) % 6 = X ∧ 0 ≤ X ∧ X < 6 := ⟨_, rfl, by omega, by omega⟩
        obtain ⟨Lu, hlu, hsu⟩ := (HU.out.below HB3.out).src
        obtain ⟨Lh, hlh, hsh⟩ := (HH.out.below HB3.out).src hm0
        obtain ⟨ii, hii, hz0, hz1, hz2⟩ := info_parts info_hour
        have HI := Lib.hid hii
        have HZ0 := Lib.hid hz0
        have HZ1 := Lib.hid hz1
        have HZ2 := Lib.hid hz2
        obtain ⟨jj, hjj, jz0, jz1, jz2⟩ := info_parts info_unit
        have HJ := Lib.hid hjj
        have JZ0 := Lib.hid jz0
        have JZ1 := Lib.hid jz1
        have JZ2 := Lib.hid jz2
        have o1 := Own.made (e := 39) (size := 9) w3 (Nat.le_refl _)
        have a1 := (Kp.refl w3).alloc (.cells #[] 39)
        have s1 := hsu.below a1
        have HLU := Lib.hid hlu
        have HLH := Lib.hid hlh
        have HSH := Lib.hid hsh
        clear hlu hlh hsu hsh hii hz0 hz1 hz2 hjj jz0 jz1 jz2
        go_wp2_with (first
          | (at_builtin; refine wpList_append_my rfl (base := w3.heap.size) (e := 39) (size := 9) (bytes := 88) (.tmp 38) (.tmp 39) 22 rfl Tryz.underlying22 HJ.out JZ0.out JZ1.out JZ2.out rfl (by decide) (xs := []) (news := Lu) rfl (by exact o1) rfl (by exact s1) (by simp only [maxLen]; omega) (by omega) (by simp) ?_
             intro B4 cb4 w4 hO4 hb4 hk4
             simp only [Nat.zero_add, List.nil_append] at hO4
             have kw4 : Kp w3 w4 := Below.trans a1 hb4
             have HA4 := Lib.hid (And.intro hO4 kw4)
             have o2 := Own.made (e := 46) (size := 3) w4 (Nat.le_refl _)
             have a2 := (Kp.refl w4).alloc (.cells #[] 46)
             have s2 := (HSH.out.below kw4).below a2
             clear hO4 hb4 hk4 kw4)
          | (at_builtin; refine wpList_append_my rfl (base := w4.heap.size) (e := 46) (size := 3) (bytes := 56) (.tmp 41) (.tmp 42) 23 rfl Tryz.underlying23 HI.out HZ0.out HZ1.out HZ2.out rfl (by decide) (xs := []) (news := Lh) rfl (by exact o2) rfl (by exact s2) (by simp only [maxLen]; omega) (by omega) (by simp) ?_
             intro B5 cb5 w5 hO5 hb5 hk5
             simp only [Nat.zero_add, List.nil_append] at hO5
             have HA5 := Lib.hid (And.intro hO5 (show Kp w4 w5 from Below.trans a2 hb5))
             clear hO5 hb5 hk5))
        have HSTU := Lib.hid (show ∃ g5, B5 = some ⟨g5, 0, none⟩ ∧ Icp w3 us hs n m X (z : Int) B4 g5 0 w5 by
          obtain ⟨q1, q2⟩ := HA4.out
          obtain ⟨q3, q4⟩ := HA5.out
          obtain ⟨g5, c5, e5, b5, d5, f5⟩ := HsB.of q3 HLH.out HML.out hm0
          refine ⟨g5, e5, Kp.trans q2 q4, ⟨c5, d5, f5⟩, Nat.le_trans q2.size b5, fun hn => ?_⟩
          obtain ⟨g4, c4, e4, b4, d4, f4⟩ := UsB.of q1 HLU.out HNL.out hn
          exact ⟨g4, c4, e4, b4, Kp.blk q4 d4, f4.start⟩)
        obtain ⟨g5, rfl, hst⟩ := HSTU.out
        have HST := Lib.hid hst
        clear HSTU hst o1 a1 s1 o2 a2 s2
        go_loopw [13] (fun t wr => ∃ k : Nat, k ≤ n ∧ t = .int .i64 k ∧ Hid (Icp w3 us hs n m X (z : Int) B4 g5 k wr)) (fun t _ => n - (intOf t).toNat)
        case atStart => exact ⟨0, Nat.zero_le _, rfl, HST.out⟩
        case round =>
          clear HST
          obtain ⟨k, hk, rfl, hR⟩ := hrel
          by_cases hlt : k < n
          · obtain ⟨g4, _, e4, _⟩ := hR.out.2.2.2 (by omega)
            subst e4
            obtain ⟨⟨⟨y0, f0⟩, ⟨y7, f7⟩, f1, f2⟩, hN⟩ := hR.out.step hlt
            have HN := Lib.hid hN
            have k1 : (0 : Int) ≤ (k : Int) := by omega
            have k2 : (k : Int) < (n : Int) := by omega
            clear hR hN
            go_wp2
            go_roundw
            case rel => exact ⟨k + 1, by omega, by go_num, HN.out⟩
            case measure => simp [intOf]; omega
          · obtain rfl : n = k := by omega
            have HST2 := Lib.hid hR.out
            clear hR
            go_wp2_with fail
            go_loopw [14] (fun t wr => ∃ k : Nat, k ≤ m ∧ t = .int .i64 k ∧ Hid (Icp w3 us hs n m X (z : Int) B4 g5 n wr)) (fun t _ => m - (intOf t).toNat)
            case atStart => exact ⟨0, Nat.zero_le _, rfl, HST2.out⟩
            case round =>
              clear HST2
              obtain ⟨k, hk, rfl, hR⟩ := hrel
              by_cases hlt2 : k < m
              · obtain ⟨⟨⟨y0, f0⟩, f1⟩, hN⟩ := hR.out.real hlt2 R nr cr
                have HN := Lib.hid hN
                have k1 : (0 : Int) ≤ (k : Int) := by omega
                have k2 : (k : Int) < (m : Int) := by omega
                clear hR hN
                go_wp2
                go_roundw
                case rel => exact ⟨k + 1, by omega, by go_num, HN.out⟩
                case measure => simp [intOf]; omega
              · obtain rfl : m = k := by omega
                obtain ⟨wv, rfl⟩ : ∃ v, v = wr := ⟨_, rfl⟩
                have kv : Kp w wv := Kp.trans HB3.out hR.out.1
                obtain ⟨cp1, cp2, cp3⟩ := chF_plan (hs := hs) HNL.out HCK.out hX0 hX6 (show (0 : Int) ≤ (z : Int) by omega) (show (z : Int) ≤ 1000000 by omega)
                have hu2 := hR.out.us
                have hh2 := hR.out.hs HML.out
                generalize (List.range n).map (chF us X (z : Int) n) = us2 at *
                have HU2 := Lib.hid (And.intro hu2 hh2)
                have HCP := Lib.hid (And.intro cp1 (And.intro cp2 cp3))
                have HKV := Lib.hid kv
                have HT1 := Lib.hid (plan_raw A B n c m d us hs wv (HU.out.below kv) (HH.out.below kv) HO.out (by omega) (by omega))
                clear hR hu2 hh2 cp1 cp2 cp3 kv
                go_wp2_with fail
                refine HT1.out.mono ?_
                rintro e w6 ⟨hb6, h6⟩
                have HB6 := Lib.hid (show Kp wv w6 from hb6)
                have HT2 := Lib.hid (plan_raw B4 (some ⟨g5, 0, none⟩) n cb4 m cb5 us2 hs w6 (HU2.out.1.below hb6) (HU2.out.2.below hb6) HO.out (by omega) (by omega))
                clear hb6 HT1
                rcases h6 with ⟨h6, he⟩ | ⟨_, h6, he⟩ | ⟨_, ⟨c1, v1, h6⟩, ga, he, hown⟩
                · exact absurd HCK.out h6
                · subst he
                  have H6 := Lib.hid h6
                  clear h6
                  go_wp2_with fail
                  refine HT2.out.mono ?_
                  rintro e w7 ⟨hb7, h7⟩
                  rcases h7 with ⟨h7, he⟩ | ⟨_, h7, he⟩ | ⟨_, ⟨c1, v1, h7⟩, gb, he, hown⟩
                  · exact absurd HCP.out.1 h7
                  · subst he
                    have HB7 := Lib.hid (Kp.trans HKV.out (Kp.trans HB6.out (show Kp w6 w7 from hb7)))
                    have T8 := sameAll_any none none 0 0 0 0 [] [] w7 ⟨rfl, fun h => absurd rfl h⟩ ⟨rfl, fun h => absurd rfl h⟩ (fun r hr => by simp at hr) (fun r hr => by simp at hr) (by omega) (by omega)
                    have HT8 := Lib.hid T8
                    clear HT2 hb7 h7 T8
                    go_wp2_with fail
                    refine HT8.out.mono ?_
                    rintro e w8 ⟨rfl, hb8⟩
                    have HB8 := Lib.hid (Kp.trans HB7.out hb8)
                    clear HT8 hb8
                    go_wp2
                    go_ret
                    exact ⟨rfl, HB8.out⟩
                  · rw [← HCP.out.2.1, H6.out] at h7
                    simp at h7
                · rw [HML.out] at he
                  subst he
                  have H6 := Lib.hid h6
                  have HOW := Lib.hid (hown.at (show (planB us hs).length = m by rw [(planB_shape h6).1]; exact HML.out))
                  clear h6 hown
                  go_wp2_with fail
                  refine HT2.out.mono ?_
                  rintro e w7 ⟨hb7, h7⟩
                  rcases h7 with ⟨h7, he⟩ | ⟨_, h7, he⟩ | ⟨_, _, gb, he, hown⟩
                  · exact absurd HCP.out.1 h7
                  · rw [← HCP.out.2.1, H6.out] at h7
                    simp at h7
                  · rw [HML.out] at he
                    subst he
                    have HB7 := Lib.hid (Kp.trans HKV.out (Kp.trans HB6.out (show Kp w6 w7 from hb7)))
                    have T8 := sameAll_any (some ⟨ga, 0, none⟩) (some ⟨gb, 0, none⟩) m m m m (planB us hs) (planB us2 hs) w7 (HOW.out.below hb7) (hown.at (by rw [← HCP.out.2.2, (planB_shape H6.out).1]; exact HML.out)) (planB_ok H6.out (by rw [HNL.out]; omega)) (by rw [← HCP.out.2.2]; exact planB_ok H6.out (by rw [HNL.out]; omega)) (by omega) (by omega)
                    rw [decide_eq_true HCP.out.2.2] at T8
                    have HT8 := Lib.hid T8
                    clear HT2 hb7 hown T8
                    go_wp2_with fail
                    refine HT8.out.mono ?_
                    rintro e w8 ⟨rfl, hb8⟩
                    have HB8 := Lib.hid (Kp.trans HB7.out hb8)
                    clear HT8 hb8
                    go_wp2
                    go_ret
                    exact ⟨rfl, HB8.out⟩

end Go.Proofs.YtdoeejcmaeefcaaGreat
