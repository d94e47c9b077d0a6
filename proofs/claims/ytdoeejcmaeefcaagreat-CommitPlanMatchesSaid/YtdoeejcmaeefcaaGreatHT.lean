/-
Package commit: Check. Plain law of package commit: the sums that Cost makes. No statement of the seat is proved here; no conditions beyond those of each theorem.
-/
import Derived.Test.YtdoeejcmaeefcaaGreatHS
import Derived.Test.YtdoeejcmaeefcaaGreatHQ
namespace Go.Proofs.YtdoeejcmaeefcaaGreat
set_option linter.unusedVariables false
set_option linter.unusedSimpArgs false
open Go.RowKit
open Wd
open Cm

/-- Hours whose bids a machine can hold. -/
def HsOk (hs : List Hr) : Prop := ∀ h ∈ hs, h.bids.length ≤ 1000000000000 ∧ ∀ b ∈ h.bids, b.2.length ≤ 1000000000000
theorem hcFrom_good {h : Hr} {r : List Hr} (e : hchk h = 0) : hcFrom (h :: r) = hcFrom r := by rw [hcFrom, if_pos e]
theorem hcFrom_bad {h : Hr} {r : List Hr} (e : hchk h ≠ 0) : hcFrom (h :: r) = hchk h := by rw [hcFrom, if_neg e]

set_option maxRecDepth 100000 in
set_option maxHeartbeats 4000000 in
theorem ccheck_raw (A B : Option Addr) (n c m d : Nat) (us : List Un) (hs : List Hr) (w : World) (h : UsAt w A n us) (h' : HsAt w B m hs) (ho : HsOk hs) (hm : n ≤ 1000000000000) (hm' : m ≤ 1000000000000) :
    Calls Tryz.prog 24 #[.slice A n c, .slice B m d] w fun e w' => e = .returned (.int .i64 (cchk us hs)) ∧ Below w.heap.size w w' := by
  by_cases h5 : 5 < n
  · have HE := Lib.hid (show cchk us hs = 5 by unfold cchk; rw [if_pos (by rw [h.1]; exact h5)])
    have h5i : (5 : Int) < (n : Int) := by omega
    clear h h' ho
    go_enter Tryz.func24, Tryz.ntmps24
    go_wp2
    go_ret
    exact ⟨by rw [HE.out]; rfl, Below.refl _ _⟩
  · have HE := Lib.hid (show cchk us hs = if ecFrom us ≠ 0 then ecFrom us else if m = 0 then 4 else if 8 < m then 5 else hcFrom hs by unfold cchk; rw [if_neg (by rw [h.1]; exact h5), h'.1])
    have h5i : ¬ (5 : Int) < (n : Int) := by omega
    generalize cchk us hs = res at *
    have HL := Lib.hid h.1
    have HC := Lib.hid h.2
    have HX := Lib.hid h'
    have HO := Lib.hid ho
    clear h h' ho
    go_enter Tryz.func24, Tryz.ntmps24
    go_wp2_with fail
    go_loopw [16] (fun t wr => ∃ k : Nat, k ≤ n ∧ t = .int .i64 k ∧ Hid (ecFrom us = ecFrom (us.drop k)) ∧ Hid (Below w.heap.size w wr)) (fun t _ => n - (intOf t).toNat)
    case atStart => exact ⟨0, Nat.zero_le _, rfl, rfl, Below.refl _ _⟩
    case round =>
      obtain ⟨k, hk, rfl, hR, hB⟩ := hrel
      by_cases hlt : k < n
      · obtain ⟨b, o, rfl, hb, hcell⟩ := HC.out (by omega)
        have hu := (hcell k hlt).below hb hB.out
        have hdr := dropU (l := us) (k := k) (by rw [HL.out]; exact hlt)
        generalize us[k]?.getD U0 = u at *
        obtain ⟨bus, mn, st, up, dn, start, idle, spin, on⟩ := u
        obtain ⟨A', n', c', ⟨h0, h1, h2, h3, h4, h5', h6, h7, h8⟩, hs0, hn'⟩ := hu
        simp only at h0 h1 h2 h3 h4 h5' h6 h7 h8 hs0
        have hbr : b < wr.heap.size := Nat.lt_of_lt_of_le hb hB.out.size
        have HDR := Lib.hid hdr
        clear hdr hcell
        have kb := (Kp.refl wr).alloc (.cells #[.int .i64 bus, .int .i64 mn, .slice A' n' c', .int .i64 up, .int .i64 dn, .int .i64 start, .int .i64 idle, .int .i64 spin, .int .i64 on] 39)
        have HB9 := Lib.hid (hB.out.trans (Below.mono kb hB.out.size))
        have T := fun W hW => ucheck_raw bus mn up dn start idle spin on A' n' c' st W hW hn'
        have HS9 := Lib.hid (hs0.below kb)
        clear kb hs0
        by_cases hz : uchk (⟨bus, mn, st, up, dn, start, idle, spin, on⟩ : Un) = 0
        · have HN := Lib.hid (show ecFrom us = ecFrom (us.drop (k + 1)) by rw [hR.out, HDR.out]; exact ecFrom_ok hz)
          rw [hz] at T
          have T := Lib.hid T
          clear hz
          go_wp2_with fail
          refine (T.out _ HS9.out).mono ?_
          rintro e w2 ⟨rfl, hb2⟩
          have HB3 := Lib.hid (HB9.out.trans (hb2.mono HB9.out.size))
          clear hb2 h0 h1 h2 h3 h4 h5' h6 h7 h8
          go_wp2
          go_roundw
          case rel => exact ⟨k + 1, by omega, by go_num, HN.out, HB3.out⟩
          case measure => simp [intOf]; omega
        · have hx : ecFrom us = uchk (⟨bus, mn, st, up, dn, start, idle, spin, on⟩ : Un) := by rw [hR.out, HDR.out]; exact ecFrom_bad hz
          have HF := Lib.hid (show res = uchk (⟨bus, mn, st, up, dn, start, idle, spin, on⟩ : Un) by rw [HE.out, if_pos (by rw [hx]; exact hz), hx])
          generalize uchk (⟨bus, mn, st, up, dn, start, idle, spin, on⟩ : Un) = x at *
          have hxz : (x != 0) = true := by simpa using hz
          have T := Lib.hid T
          clear hz hx
          go_wp2_with fail
          refine (T.out _ HS9.out).mono ?_
          rintro e w2 ⟨rfl, hb2⟩
          have HB3 := Lib.hid (HB9.out.trans (hb2.mono HB9.out.size))
          clear hb2 h0 h1 h2 h3 h4 h5' h6 h7 h8 T
          go_wp2
          go_ret
          exact ⟨by rw [HF.out]; rfl, HB3.out⟩
      · obtain rfl : n = k := by omega
        have hz : ecFrom us = 0 := by rw [hR.out, List.drop_eq_nil_of_le (by rw [HL.out]; exact Nat.le_refl _)]; rfl
        have HE2 := Lib.hid (HE.out.trans (if_neg (by rw [hz]; simp)))
        have HB := Lib.hid hB.out
        clear hz hR hB HE
        by_cases m0 : m = 0
        · have HE3 := Lib.hid (HE2.out.trans (if_pos m0))
          have hb : ((m : Int) == 0) = true := by simp [m0]
          clear HE2 m0
          go_wp2
          go_ret
          exact ⟨by rw [HE3.out]; rfl, HB.out⟩
        · have hb : ((m : Int) == 0) = false := by simp [m0]
          have HE3 := Lib.hid (HE2.out.trans (if_neg m0))
          clear HE2
          by_cases m8 : 8 < m
          · have HE4 := Lib.hid (HE3.out.trans (if_pos m8))
            have h8i : (8 : Int) < (m : Int) := by omega
            clear HE3
            go_wp2
            go_ret
            exact ⟨by rw [HE4.out]; rfl, HB.out⟩
          · have HE4 := Lib.hid (HE3.out.trans (if_neg m8))
            have h8i : ¬ (8 : Int) < (m : Int) := by omega
            clear HE3
            go_wp2_with fail
            go_loopw [34] (fun t wr2 => ∃ k : Nat, k ≤ m ∧ t = .int .i64 k ∧ Hid (hcFrom hs = hcFrom (hs.drop k) ∧ Below w.heap.size w wr2)) (fun t _ => m - (intOf t).toNat)
            case atStart => exact ⟨0, Nat.zero_le _, rfl, rfl, HB.out⟩
            case round =>
              clear HB
              obtain ⟨k, hk, rfl, hR⟩ := hrel
              obtain ⟨wu, rfl⟩ : ∃ v, v = wr := ⟨_, rfl⟩
              by_cases hlt : k < m
              · obtain ⟨b, o, rfl, hb', hcell⟩ := HX.out.2 (by omega)
                obtain ⟨Ab, nb, cb, Ar, nr, cr, e0, e1, e2, hbd⟩ := hcell k hlt
                have hkl : k < hs.length := by rw [HX.out.1]; exact hlt
                have hdr := dropD (d := Hr0) hkl
                have c0 := (hR.out.2.cell (p := ⟨b, o + k * 3, none⟩) hb').trans e0
                have c1 := (hR.out.2.cell (p := ⟨b, o + k * 3 + 1, none⟩) hb').trans e1
                have c2 := (hR.out.2.cell (p := ⟨b, o + k * 3 + 2, none⟩) hb').trans e2
                obtain ⟨l1, l2⟩ := HO.out _ (gmem (d := Hr0) hkl)
                have hbd2 := hbd.below hR.out.2
                have hrel := hR.out.1
                rw [hdr] at hrel
                generalize hs[k]?.getD Hr0 = hh at *
                obtain ⟨bids, need⟩ := hh
                simp only at c0 c1 c2 l1 l2 hbd2
                have kb := (Kp.refl wu).alloc (.cells #[.slice Ab nb cb, .slice Ar nr cr, .int .i64 need] 46)
                have T := checkHour_raw Ab Ar nb cb nr cr need bids _ (hbd2.below kb) l2 (by rw [← hbd2.1]; exact l1)
                have HB9 := Lib.hid (hR.out.2.trans (Below.mono kb hR.out.2.size))
                have HRL := Lib.hid hrel
                clear hcell e0 e1 e2 hbd hkl hdr l1 l2 hbd2 hrel hR kb
                by_cases hz : hchk ⟨bids, need⟩ = 0
                · have HN := Lib.hid (HRL.out.trans (hcFrom_good hz))
                  rw [hz] at T
                  have T := Lib.hid T
                  clear hz HRL
                  go_wp2_with fail
                  refine T.out.mono ?_
                  rintro e w2 ⟨rfl, hb2⟩
                  have HB3 := Lib.hid (HB9.out.trans (hb2.mono HB9.out.size))
                  clear hb2 T c0 c1 c2
                  go_wp2
                  go_roundw
                  case rel => exact ⟨k + 1, by omega, by go_num, HN.out, HB3.out⟩
                  case measure => simp [intOf]; omega
                · have hx := HRL.out.trans (hcFrom_bad hz)
                  have HF := Lib.hid (HE4.out.trans hx)
                  generalize hchk ⟨bids, need⟩ = x at *
                  have hxz : (x != 0) = true := by simpa using hz
                  have T := Lib.hid T
                  clear hz hx HRL
                  go_wp2_with fail
                  refine T.out.mono ?_
                  rintro e w2 ⟨rfl, hb2⟩
                  have HB3 := Lib.hid (HB9.out.trans (hb2.mono HB9.out.size))
                  clear hb2 T c0 c1 c2
                  go_wp2
                  go_ret
                  exact ⟨by rw [HF.out]; rfl, HB3.out⟩
              · obtain rfl : m = k := by omega
                have hz : hcFrom hs = 0 := by rw [hR.out.1, List.drop_eq_nil_of_le (by rw [HX.out.1]; exact Nat.le_refl _)]; rfl
                have HF := Lib.hid (HE4.out.trans hz)
                have HB := Lib.hid hR.out.2
                clear hz hR
                go_wp2
                go_ret
                exact ⟨by rw [HF.out]; rfl, HB.out⟩

end Go.Proofs.YtdoeejcmaeefcaaGreat

namespace Go.Proofs.YtdoeejcmaeefcaaGreat
set_option linter.unusedVariables false
set_option linter.unusedSimpArgs false
open Go.RowKit
open Wd
namespace Cm

theorem sup_bd {us : List Un} {h : Hr} {bs : List Bool} {y : Int} (h5 : us.length ≤ 5) (hu : ∀ u ∈ us, uchk u = 0) (hb : bs.length = us.length) (hy : supH us h bs = some y) : y.natAbs ≤ 45000000000000 := by
  unfold supH at hy
  split at hy
  · simp only [Option.some.injEq] at hy
    subst hy
    unfold lcV
    split
    · rename_i he
      obtain ⟨h1, _⟩ := aerr_ok he
      exact costR_bd rfl hb h5 hu ((lcP_any hb he).1.feas (pus_allok hu))
    · simp
  · simp at hy
/-- The first k hours of a plan: what their energy costs. -/
noncomputable def supS (us : List Un) (hs : List Hr) (pl : List (List Bool)) (k : Nat) : Int := sumN (fun j => (supH us (hs[j]?.getD Hr0) (pl[j]?.getD [])).getD 0) k
def SupOk (us : List Un) (hs : List Hr) (pl : List (List Bool)) (k : Nat) : Prop := ∀ j, j < k → (pl[j]?.getD []).length = us.length ∧ ∃ y, supH us (hs[j]?.getD Hr0) (pl[j]?.getD []) = some y
theorem SupOk.next {us : List Un} {hs : List Hr} {pl : List (List Bool)} {k : Nat} {y : Int} (h : SupOk us hs pl k) (h1 : (pl[k]?.getD []).length = us.length) (h2 : supH us (hs[k]?.getD Hr0) (pl[k]?.getD []) = some y) : SupOk us hs pl (k + 1) ∧ supS us hs pl (k + 1) = supS us hs pl k + y := by
  refine ⟨fun j hj => ?_, ?_⟩
  · by_cases hjk : j < k
    · exact h j hjk
    · obtain rfl : j = k := by omega
      exact ⟨h1, y, h2⟩
  · unfold supS
    rw [sumN, h2]
    rfl
theorem supS_bd {us : List Un} {hs : List Hr} {pl : List (List Bool)} (h5 : us.length ≤ 5) (hu : ∀ u ∈ us, uchk u = 0) : ∀ {k : Nat}, SupOk us hs pl k → (supS us hs pl k).natAbs ≤ 45000000000000 * k
  | 0, _ => by simp [supS, sumN]
  | k + 1, h => by
    obtain ⟨h1, y, h2⟩ := h k (by omega)
    have ih := supS_bd h5 hu (k := k) fun j hj => h j (by omega)
    have e := (SupOk.next (fun j hj => h j (by omega)) h1 h2).2
    have hb := sup_bd h5 hu h1 h2
    rw [e]
    omega
/-- The first k units of a plan: their fixed costs. -/
def fixS (us : List Un) (pl : List (List Bool)) (k : Nat) : Int := sumN (fun i => ucost (us[i]?.getD U0) (colB pl i)) k
def FixOk (us : List Un) (pl : List (List Bool)) (k : Nat) : Prop := ∀ i, i < k → ufeas (us[i]?.getD U0) (uinit (us[i]?.getD U0)) (colB pl i) = true
theorem FixOk.next {us : List Un} {pl : List (List Bool)} {k : Nat} (h : FixOk us pl k) (h1 : ufeas (us[k]?.getD U0) (uinit (us[k]?.getD U0)) (colB pl k) = true) : FixOk us pl (k + 1) := fun j hj => by
  by_cases hjk : j < k
  · exact h j hjk
  · obtain rfl : j = k := by omega
    exact h1
theorem costV_bad {us : List Un} {hs : List Hr} {pl : List (List Bool)} (h0 : cchk us hs = 0) (h : ∀ v, pl.length = hs.length → (∀ r ∈ pl, r.length = us.length) → costB us hs pl ≠ some v) : costV us hs pl = (0, 3) := by
  unfold costV
  rw [if_neg (by simp [h0])]
  by_cases h2 : pl.length = hs.length ∧ ∀ r ∈ pl, r.length = us.length
  · rw [if_pos h2]
    cases e : costB us hs pl with
    | none => rfl
    | some v => exact absurd e (h v h2.1 h2.2)
  · rw [if_neg h2]
theorem costV_len {us : List Un} {hs : List Hr} {pl : List (List Bool)} (h0 : cchk us hs = 0) (h : pl.length ≠ hs.length) : costV us hs pl = (0, 3) := costV_bad h0 fun v h1 => absurd h1 h
theorem costV_row {us : List Un} {hs : List Hr} {pl : List (List Bool)} {k : Nat} (h0 : cchk us hs = 0) (hk : k < pl.length) (h : (pl[k]?.getD []).length ≠ us.length) : costV us hs pl = (0, 3) :=
  costV_bad h0 fun v _ h2 => absurd (h2 _ (gmem (d := []) hk)) h
theorem costV_sup {us : List Un} {hs : List Hr} {pl : List (List Bool)} {k : Nat} (h0 : cchk us hs = 0) (hk : k < hs.length) (h : supH us (hs[k]?.getD Hr0) (pl[k]?.getD []) = none) : costV us hs pl = (0, 3) :=
  costV_bad h0 fun v h1 h2 h3 => by
    obtain ⟨y, hy⟩ := ((costB_iff h1 h2).1 h3).1 k hk
    rw [h] at hy
    simp at hy
theorem costV_feas {us : List Un} {hs : List Hr} {pl : List (List Bool)} {i : Nat} (h0 : cchk us hs = 0) (hi : i < us.length) (h : ufeas (us[i]?.getD U0) (uinit (us[i]?.getD U0)) (colB pl i) = false) : costV us hs pl = (0, 3) :=
  costV_bad h0 fun v h1 h2 h3 => by
    have := ((costB_iff h1 h2).1 h3).2.1 i hi
    rw [h] at this
    simp at this
theorem costV_good {us : List Un} {hs : List Hr} {pl : List (List Bool)} (h0 : cchk us hs = 0) (hl : pl.length = hs.length) (h1 : SupOk us hs pl hs.length) (h2 : FixOk us pl us.length) : costV us hs pl = (supS us hs pl hs.length + fixS us pl us.length, 0) := by
  have hr : ∀ r ∈ pl, r.length = us.length := fun r hr => by
    obtain ⟨j, hj, rfl⟩ := List.mem_iff_getElem.1 hr
    have := (h1 j (by omega)).1
    rw [List.getElem?_eq_getElem hj] at this
    exact this
  obtain ⟨_, hu, _⟩ := cchk_ok.1 h0
  refine costV_of h0 hl hr ((costB_iff hl hr).2 ⟨fun k hk => (h1 k hk).2, h2, ?_⟩)
  have e : fixS us pl us.length = sumN (fun i => ufix (us[i]?.getD U0) (uinit (us[i]?.getD U0)) (colB pl i)) us.length := sumN_congr fun i hi => ucost_eq (hu _ (gmem hi)) (h2 i hi)
  rw [e]
  rfl
theorem colB_get {pl : List (List Bool)} {i j : Nat} (hj : j < pl.length) : (colB pl i)[j]?.getD false = (pl[j]?.getD [])[i]?.getD false := by simp [colB, hj]

end Cm
end Go.Proofs.YtdoeejcmaeefcaaGreat
