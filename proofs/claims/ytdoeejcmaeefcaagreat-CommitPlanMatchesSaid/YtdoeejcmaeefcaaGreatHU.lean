/-
Long of the statements on package commit. wide, of the statements on package commit. Reference 26: Same, SameAll. No statement of the seat is proved here; no conditions beyond those of each theorem.
-/
import Derived.Test.YtdoeejcmaeefcaaGreatJCw7
namespace Go.Proofs.YtdoeejcmaeefcaaGreat
set_option linter.unusedVariables false
set_option linter.unusedSimpArgs false
open Go.RowKit
open Wd
open Cm

def lngB : List Bd → Bool
  | [] => false
  | b :: r => decide (20 < b.2.length) || lngB r
def lngH : List Hr → Bool
  | [] => false
  | h :: r => (decide (20 < h.bids.length) || lngB h.bids) || lngH r
def long29 (us : List Un) (hs : List Hr) : Bool := (longB us 0 || decide (20 < hs.length)) || lngH hs
theorem lngB_mem : ∀ {bs : List Bd}, lngB bs = false → ∀ b ∈ bs, b.2.length ≤ 20
  | [], _, b, hb => by simp at hb
  | x :: r, h, b, hb => by
    simp only [lngB, Bool.or_eq_false_iff, decide_eq_false_iff_not] at h
    rcases List.mem_cons.1 hb with rfl | hb
    · omega
    · exact lngB_mem h.2 b hb
theorem lngH_mem : ∀ {hs : List Hr}, lngH hs = false → ∀ h ∈ hs, h.bids.length ≤ 20 ∧ ∀ b ∈ h.bids, b.2.length ≤ 20
  | [], _, b, hb => by simp at hb
  | x :: r, h, b, hb => by
    simp only [lngH, Bool.or_eq_false_iff, decide_eq_false_iff_not] at h
    rcases List.mem_cons.1 hb with rfl | hb
    · exact ⟨by omega, lngB_mem h.1.2⟩
    · exact lngH_mem h.2 b hb
theorem long29_no {us : List Un} {hs : List Hr} (h : long29 us hs = false) : longB us 0 = false ∧ hs.length ≤ 20 ∧ HsOk hs := by
  simp only [long29, Bool.or_eq_false_iff, decide_eq_false_iff_not] at h
  refine ⟨h.1.1, by omega, fun x hx => ?_⟩
  have h1 := lngH_mem h.2 x hx
  exact ⟨by omega, fun b hb => by have := h1.2 b hb; omega⟩
theorem lngB_drop {bs : List Bd} {k : Nat} (hk : k < bs.length) : lngB (bs.drop k) = (decide (20 < (bs[k]?.getD Bd0).2.length) || lngB (bs.drop (k + 1))) := by
  rw [dropD (d := Bd0) hk, lngB]
theorem lngH_drop {hs : List Hr} {k : Nat} (hk : k < hs.length) : lngH (hs.drop k) = ((decide (20 < (hs[k]?.getD Hr0).bids.length) || lngB (hs[k]?.getD Hr0).bids) || lngH (hs.drop (k + 1))) := by
  rw [dropD (d := Hr0) hk, lngH]

set_option maxRecDepth 100000 in
set_option maxHeartbeats 4000000 in
theorem long29_any (A B : Option Addr) (n c m d : Nat) (us : List Un) (hs : List Hr) (w : World) (h : UsRaw w A n us) (h' : HsAt w B m hs) :
    Calls Tryz.prog 10 #[.slice A n c, .slice B m d] w fun e w' => e = .returned (.bool (long29 us hs)) ∧ w = w' := by
  have T := Lib.hid (long28_any A none n c 0 0 us [] w h rfl)
  have hml := h'.1
  by_cases h1 : longB us 0 = true
  · rw [h1] at T
    have e1 : long29 us hs = true := by unfold long29; rw [h1]; rfl
    rw [e1]
    clear h h' e1 hml
    go_enter Tryz.func10, Tryz.ntmps10
    go_wp2_with fail
    refine T.out.mono ?_
    rintro e w1 ⟨rfl, rfl⟩
    clear T h1
    go_wp2
    go_ret
    exact ⟨rfl, rfl⟩
  · have h1' : longB us 0 = false := by simpa using h1
    rw [h1'] at T
    by_cases h2 : 20 < m
    · have e1 : long29 us hs = true := by unfold long29; rw [h1', hml]; simp [h2]
      have d2 : decide (20 < m) = true := by simpa using h2
      have d2' : decide ((20 : Int) < (m : Int)) = true := by simp; omega
      rw [e1]
      clear h h' e1 hml h1 h1'
      go_enter Tryz.func10, Tryz.ntmps10
      go_wp2_with fail
      refine T.out.mono ?_
      rintro e w1 ⟨rfl, rfl⟩
      clear T
      go_wp2
      go_ret
      exact ⟨rfl, rfl⟩
    · have d2 : decide (20 < m) = false := by simpa using h2
      have d2' : decide ((20 : Int) < (m : Int)) = false := by simp; omega
      have hm20 : m ≤ 20 := by omega
      have HE := Lib.hid (show long29 us hs = lngH hs by unfold long29; rw [h1', hml, d2]; rfl)
      have HH := Lib.hid h'
      clear h h' hml h1 h1'
      go_enter Tryz.func10, Tryz.ntmps10
      go_wp2_with fail
      refine T.out.mono ?_
      rintro e w1 ⟨rfl, rfl⟩
      clear T
      go_wp2_with fail
      go_loopw [5] (fun t wr => ∃ k : Nat, k ≤ m ∧ t = .int .i64 k ∧ Hid (lngH hs = lngH (hs.drop k)) ∧ w = wr) (fun t _ => m - (intOf t).toNat)
      case atStart => exact ⟨0, Nat.zero_le _, rfl, rfl, rfl⟩
      case round =>
        obtain ⟨k, hk, rfl, hR, rfl⟩ := hrel
        by_cases hlt : k < m
        · obtain ⟨bh, oh, rfl, hbh, hch⟩ := HH.out.2 (by omega)
          obtain ⟨Ab, nb, cb, Ar, nr, cr, e0, e1, e2, hbd⟩ := hch k hlt
          have hkl : k < hs.length := by rw [HH.out.1]; exact hlt
          have HD := Lib.hid (lngH_drop hkl)
          have hnb := hbd.1
          generalize hs[k]?.getD Hr0 = hh at *
          obtain ⟨bids, need⟩ := hh
          simp only at hnb
          have i1 : (0 : Int) ≤ (k : Int) := by omega
          have i2 : (k : Int) < (m : Int) := by omega
          by_cases h3 : 20 < nb
          · have HF := Lib.hid (show long29 us hs = true by rw [HE.out, hR.out, HD.out]; simp [hnb, h3])
            have d3 : decide (20 < nb) = true := by simpa using h3
            have d3' : decide ((20 : Int) < (nb : Int)) = true := by simp; omega
            clear hR hbd hch e1 e2
            go_wp2
            go_ret
            exact ⟨by rw [HF.out]; rfl, rfl⟩
          · have d3 : decide (20 < nb) = false := by simpa using h3
            have d3' : decide ((20 : Int) < (nb : Int)) = false := by simp; omega
            have HBD := Lib.hid hbd
            have HNB := Lib.hid hnb
            have HR := Lib.hid hR.out
            clear hR hbd hch e1 e2 hnb
            go_wp2_with fail
            go_loopw [6] (fun t wr => ∃ j : Nat, j ≤ nb ∧ t = .int .i64 j ∧ Hid (lngB bids = lngB (bids.drop j)) ∧ w = wr) (fun t _ => nb - (intOf t).toNat)
            case atStart => exact ⟨0, Nat.zero_le _, rfl, rfl, rfl⟩
            case round =>
              obtain ⟨j, hj, rfl, hR, rfl⟩ := hrel
              by_cases hlj : j < nb
              · obtain ⟨bb, ob, rfl, hbb, hcb⟩ := HBD.out.2 (by omega)
                obtain ⟨A', n', c', f0, f1, f2⟩ := hcb j hlj
                have hjl : j < bids.length := by rw [HNB.out]; exact hlj
                have HD2 := Lib.hid (lngB_drop hjl)
                have hsl := f2.1
                generalize bids[j]?.getD Bd0 = b at *
                have j1 : (0 : Int) ≤ (j : Int) := by omega
                have j2 : (j : Int) < (nb : Int) := by omega
                by_cases h4 : 20 < n'
                · have HF := Lib.hid (show long29 us hs = true by rw [HE.out, HR.out, HD.out]; (try dsimp only); rw [hR.out, HD2.out, decide_eq_true (show 20 < b.2.length by omega)]; simp)
                  have d4 : decide (20 < n') = true := by simpa using h4
                  have d4' : decide ((20 : Int) < (n' : Int)) = true := by simp; omega
                  clear hR hcb f2 hsl
                  go_wp2
                  go_ret
                  exact ⟨by rw [HF.out]; rfl, rfl⟩
                · have HF := Lib.hid (show lngB bids = lngB (bids.drop (j + 1)) by rw [hR.out, HD2.out, decide_eq_false (by omega)]; rfl)
                  have d4 : decide (20 < n') = false := by simpa using h4
                  have d4' : decide ((20 : Int) < (n' : Int)) = false := by simp; omega
                  clear hR hcb f2 hsl
                  go_wp2
                  go_roundw
                  case rel => exact ⟨j + 1, by omega, by go_num, HF.out, trivial⟩
                  case measure => simp [intOf]; omega
              · obtain rfl : j = nb := by omega
                have HF := Lib.hid (show lngH hs = lngH (hs.drop (k + 1)) by
                  rw [HR.out, HD.out]; (try dsimp only)
                  rw [hR.out, List.drop_of_length_le (by rw [HNB.out]; exact Nat.le_refl _), decide_eq_false (show ¬ 20 < bids.length by rw [HNB.out]; exact h3)]
                  rfl)
                clear hR
                go_wp2
                go_roundw
                case rel => exact ⟨k + 1, by omega, by go_num, HF.out, trivial⟩
                case measure => simp [intOf]; omega
        · obtain rfl : k = m := by omega
          have HF := Lib.hid (show long29 us hs = false by rw [HE.out, hR.out, List.drop_of_length_le (by rw [HH.out.1]; exact Nat.le_refl _)]; rfl)
          clear hR
          go_wp2
          go_ret
          exact ⟨by rw [HF.out]; rfl, rfl⟩

end Go.Proofs.YtdoeejcmaeefcaaGreat

namespace Go.Proofs.YtdoeejcmaeefcaaGreat
set_option linter.unusedVariables false
set_option linter.unusedSimpArgs false
open Go.RowKit
open Wd
open Cm

/-- Some boolean. -/
def WideR (w : World) (e : Ending) (w' : World) : Prop := ∃ b : Bool, e = .returned (.bool b) ∧ Below w.heap.size w w'
/-- The number of combinations, unit by unit; none once it is too large. -/
def wideS : List Un → Int → Option Int
  | [], z => some z
  | u :: r, z => if 400 < IntKind.i64.wrap (z * max 1 (IntKind.i64.wrap (min u.up 9 + min u.dn 9))) then none else wideS r (IntKind.i64.wrap (z * max 1 (IntKind.i64.wrap (min u.up 9 + min u.dn 9))))
def wideB (us : List Un) (m : Nat) : Bool := match wideS us 1 with
  | none => true
  | some _ => decide (3 < us.length) || decide (6 < m)
theorem wideS_drop {us : List Un} {k : Nat} {z : Int} (hk : k < us.length) : wideS (us.drop k) z = if 400 < IntKind.i64.wrap (z * max 1 (IntKind.i64.wrap (min (us[k]?.getD U0).up 9 + min (us[k]?.getD U0).dn 9))) then none else wideS (us.drop (k + 1)) (IntKind.i64.wrap (z * max 1 (IntKind.i64.wrap (min (us[k]?.getD U0).up 9 + min (us[k]?.getD U0).dn 9)))) := by
  rw [dropU hk, wideS]

set_option maxRecDepth 100000 in
set_option maxHeartbeats 4000000 in
theorem wide29_val (A B : Option Addr) (n c m d : Nat) (us : List Un) (w : World) (h : UsAt w A n us) (hm : n ≤ 1000000000000) :
    Calls Tryz.prog 19 #[.slice A n c, .slice B m d] w fun e w' => e = .returned (.bool (wideB us m)) ∧ Below w.heap.size w w' := by
  have HU := Lib.hid h
  clear h
  go_enter Tryz.func19, Tryz.ntmps19
  go_wp2_with fail
  go_loopw [5, 6] (fun t5 t6 wr => ∃ (k : Nat) (z : Int), k ≤ n ∧ t6 = .int .i64 k ∧ t5 = .int .i64 z ∧ Hid (Below w.heap.size w wr ∧ wideS us 1 = wideS (us.drop k) z)) (fun _ t _ => n - (intOf t).toNat)
  case atStart => exact ⟨0, 1, Nat.zero_le _, rfl, rfl, Below.refl _ _, rfl⟩
  case round =>
    obtain ⟨k, z, hk, rfl, rfl, hR⟩ := hrel
    obtain ⟨wu, rfl⟩ : ∃ v, v = wr := ⟨_, rfl⟩
    by_cases hlt : k < n
    · obtain ⟨b, o, rfl, hb, hc⟩ := HU.out.2 (by omega)
      obtain ⟨A', n', c', ⟨h0, h1, h2, h3, h4, h5', h6, h7, h8⟩, hst, hn'⟩ := hc k hlt
      have HWD := Lib.hid (hR.out.2.trans (wideS_drop (by rw [HU.out.1]; exact hlt)))
      generalize (us[k]?.getD U0).up = up at *
      generalize (us[k]?.getD U0).dn = dn at *
      have g3 := (hR.out.1.cell (p := ⟨b, o + k * 9 + 3, none⟩) hb).trans h3
      have g4 := (hR.out.1.cell (p := ⟨b, o + k * 9 + 4, none⟩) hb).trans h4
      have hbu := Nat.lt_of_lt_of_le hb hR.out.1.size
      have HS := Lib.hid (show ∀ w', Kp wu w' → (w'.cell? ⟨b, o + k * 9 + 3, none⟩ = some (.int .i64 up) ∧ w'.cell? ⟨b, o + k * 9 + 4, none⟩ = some (.int .i64 dn)) ∧ Kp wu w' from fun w' hk => ⟨⟨(Below.cell hk (p := ⟨b, o + k * 9 + 3, none⟩) hbu).trans g3, (Below.cell hk (p := ⟨b, o + k * 9 + 4, none⟩) hbu).trans g4⟩, hk⟩)
      have hk0 := Kp.refl wu
      have i1 : (0 : Int) ≤ (k : Int) := by omega
      have i2 : (k : Int) < (n : Int) := by omega
      have HB := Lib.hid hR.out.1
      clear hR hc h0 h1 h2 h3 h4 h5' h6 h7 h8 hst hn' g3 g4
      go_wp2_with fail
      go_region_held3 (fun w' => (w'.cell? ⟨b, o + k * 9 + 3, none⟩ = some (.int .i64 up) ∧ w'.cell? ⟨b, o + k * 9 + 4, none⟩ = some (.int .i64 dn)) ∧ Kp wu w')
        (first | (with_reducible refine HS.out _ ?_; with_reducible assumption) | (with_reducible refine HS.out _ (Kp.drew ?_); with_reducible assumption) | (with_reducible refine' HS.out _ (Kp.drew (And.right ?_)); rotate_left; with_reducible assumption))
        (fail)
      all_goals (
        have hk := And.right ‹_ ∧ Kp wu _›
        have HF := Lib.hid (HB.out.trans (Below.mono hk HB.out.size))
        clear hk hk0 HS
        generalize IntKind.i64.wrap (z * max 1 (IntKind.i64.wrap (min up 9 + min dn 9))) = z2 at *
        by_cases h4 : 400 < z2
        · have d4 : decide ((400 : Int) < z2) = true := by simpa using h4
          have HV := Lib.hid (show wideB us m = true by unfold wideB; rw [HWD.out, if_pos h4])
          go_wp2
          go_ret
          exact ⟨by rw [HV.out]; rfl, HF.out⟩
        · have d4 : decide ((400 : Int) < z2) = false := by simpa using h4
          have HV := Lib.hid (show wideS us 1 = wideS (us.drop (k + 1)) z2 by rw [HWD.out, if_neg h4])
          go_wp2
          go_roundw
          case rel => exact ⟨k + 1, z2, by omega, by go_num, rfl, HF.out, HV.out⟩
          case measure => simp [intOf]; omega)
    · have HB := Lib.hid hR.out.1
      have HV := Lib.hid (show wideB us m = (decide (3 < n) || decide (6 < m)) by
        unfold wideB
        rw [hR.out.2, List.drop_of_length_le (by rw [HU.out.1]; omega), HU.out.1]
        rfl)
      have i9 : ¬ ((k : Int) < (n : Int)) := by omega
      clear hR
      by_cases h3 : 3 < n
      · have d3 : decide (3 < n) = true := by simpa using h3
        have d3' : decide ((3 : Int) < (n : Int)) = true := by simp; omega
        rw [d3] at HV
        go_wp2
        go_ret
        exact ⟨by rw [HV.out]; rfl, HB.out⟩
      · have d3 : decide (3 < n) = false := by simpa using h3
        have d3' : decide ((3 : Int) < (n : Int)) = false := by simp; omega
        rw [d3] at HV
        by_cases h6 : 6 < m
        · have d6 : decide (6 < m) = true := by simpa using h6
          have d6' : decide ((6 : Int) < (m : Int)) = true := by simp; omega
          rw [d6] at HV
          go_wp2
          go_ret
          exact ⟨by rw [HV.out]; rfl, HB.out⟩
        · have d6 : decide (6 < m) = false := by simpa using h6
          have d6' : decide ((6 : Int) < (m : Int)) = false := by simp; omega
          rw [d6] at HV
          go_wp2
          go_ret
          exact ⟨by rw [HV.out]; rfl, HB.out⟩

theorem wide29_any (A B : Option Addr) (n c m d : Nat) (us : List Un) (w : World) (h : UsAt w A n us) (hm : n ≤ 1000000000000) :
    Calls Tryz.prog 19 #[.slice A n c, .slice B m d] w (WideR w) := (wide29_val A B n c m d us w h hm).mono fun e w' ⟨h1, h2⟩ => ⟨_, h1, h2⟩

end Go.Proofs.YtdoeejcmaeefcaaGreat

namespace Go.Proofs.YtdoeejcmaeefcaaGreat
set_option linter.unusedVariables false
set_option linter.unusedSimpArgs false
open Go.RowKit
open Wd
open Cm

theorem dropB' {bs : List Bool} {k : Nat} (hk : k < bs.length) : bs.drop k = (bs[k]?.getD false) :: bs.drop (k + 1) := dropD hk
set_option maxRecDepth 100000 in
set_option maxHeartbeats 2000000 in
theorem same26_any (A B : Option Addr) (n c m d : Nat) (xs ys : List Bool) (w : World) (h : BsAt w A n xs) (h' : BsAt w B m ys) (hm : n ≤ 1000000000000) (hm' : m ≤ 1000000000000) :
    Calls Tryz.prog 36 #[.slice A n c, .slice B m d] w fun e w' => e = .returned (.bool (decide (xs = ys))) ∧ Below w.heap.size w w' := by
  by_cases hnm : n = m
  · subst hnm
    have hne : ((n : Int) != (n : Int)) = false := by simp
    have HX := Lib.hid h
    have HY := Lib.hid h'
    clear h h'
    go_enter Tryz.func36, Tryz.ntmps36
    go_wp2
    go_loopw [5] (fun t wr => ∃ k : Nat, k ≤ n ∧ t = .int .i64 k ∧ Hid ((∀ i, i < k → xs[i]?.getD false = ys[i]?.getD false) ∧ Below w.heap.size w wr)) (fun t _ => n - (intOf t).toNat)
    case atStart => exact ⟨0, Nat.zero_le _, rfl, fun i hi => absurd hi (by omega), Below.refl _ _⟩
    case round =>
      obtain ⟨k, hk, rfl, hR⟩ := hrel
      obtain ⟨wu, rfl⟩ : ∃ v, v = wr := ⟨_, rfl⟩
      by_cases hlt : k < n
      · obtain ⟨b, o, rfl, hb, hc⟩ := HX.out.2 (by omega)
        obtain ⟨b', o', rfl, hb', hc'⟩ := HY.out.2 (by omega)
        have c0 := (hR.out.2.cell (p := ⟨b, o + k, none⟩) hb).trans (hc k hlt)
        have c1 := (hR.out.2.cell (p := ⟨b', o' + k, none⟩) hb').trans (hc' k hlt)
        have i1 : (0 : Int) ≤ (k : Int) := by omega
        have i2 : (k : Int) < (n : Int) := by omega
        have HBD := Lib.hid (fun q => below_drewN hR.out.2 q)
        by_cases hxy : xs[k]?.getD false = ys[k]?.getD false
        · have d1 : (xs[k]?.getD false != ys[k]?.getD false) = false := by simpa using hxy
          have HN := Lib.hid (show ∀ i, i < k + 1 → xs[i]?.getD false = ys[i]?.getD false from fun i hi => by
            by_cases hik : i = k
            · subst hik; exact hxy
            · exact hR.out.1 i (by omega))
          generalize xs[k]?.getD false = x at *
          generalize ys[k]?.getD false = y at *
          obtain rfl : x = y := by simpa using d1
          clear hR hc hc' hxy d1
          cases x
          all_goals (
            go_wp2
            go_quiet (fail)
            go_wp2
            go_roundw
            case rel => exact ⟨k + 1, by omega, by go_num, HN.out, HBD.out _⟩
            case measure => simp [intOf]; omega)
        · have d1 : (xs[k]?.getD false != ys[k]?.getD false) = true := by simpa using hxy
          have HN := Lib.hid (show decide (xs = ys) = false by
            simp only [decide_eq_false_iff_not]
            intro e; exact hxy (by rw [e]))
          generalize xs[k]?.getD false = x at *
          generalize ys[k]?.getD false = y at *
          clear hR hc hc' hxy
          cases x <;> cases y <;> (first | (exfalso; simp at d1; done) | skip)
          all_goals (
            clear d1
            go_wp2
            go_quiet (fail)
            go_wp2
            go_ret
            exact ⟨by rw [HN.out]; rfl, HBD.out _⟩)
      · obtain rfl : k = n := by omega
        have HN := Lib.hid (show decide (xs = ys) = true by
          simp only [decide_eq_true_eq]
          exact ext_b (by rw [HX.out.1, HY.out.1]) fun i hi => hR.out.1 i (by rw [HX.out.1] at hi; exact hi))
        have HB := Lib.hid hR.out.2
        clear hR
        go_wp2
        go_ret
        exact ⟨by rw [HN.out]; rfl, HB.out⟩
  · have hne2 : decide (xs = ys) = false := by
      simp only [decide_eq_false_iff_not]
      intro e; exact hnm (by rw [← h.1, ← h'.1, e])
    have hne : ((n : Int) != (m : Int)) = true := by simp; omega
    rw [hne2]
    clear h h' hne2
    go_enter Tryz.func36, Tryz.ntmps36
    go_wp2
    go_ret
    exact ⟨rfl, Below.refl _ _⟩
theorem ext_p {x y : List (List Bool)} (hl : x.length = y.length) (h : ∀ i, i < x.length → x[i]?.getD [] = y[i]?.getD []) : x = y := by
  apply List.ext_getElem hl
  intro i h1 h2
  have := h i h1
  rw [List.getElem?_eq_getElem h1, List.getElem?_eq_getElem h2] at this
  exact this
/-- Rows of a length that Go knows. -/
def PlOk (pl : List (List Bool)) : Prop := ∀ r ∈ pl, r.length ≤ 1000000000000

set_option maxRecDepth 100000 in
set_option maxHeartbeats 2000000 in
theorem sameAll_any (A B : Option Addr) (n c m d : Nat) (xs ys : List (List Bool)) (w : World) (h : PlAt w A n xs) (h' : PlAt w B m ys) (ho : PlOk xs) (ho' : PlOk ys) (hm : n ≤ 1000000000000) (hm' : m ≤ 1000000000000) :
    Calls Tryz.prog 15 #[.slice A n c, .slice B m d] w fun e w' => e = .returned (.bool (decide (xs = ys))) ∧ Below w.heap.size w w' := by
  by_cases hnm : n = m
  · subst hnm
    have hne : ((n : Int) != (n : Int)) = false := by simp
    have HX := Lib.hid h
    have HY := Lib.hid h'
    have HO := Lib.hid ho
    have HO' := Lib.hid ho'
    clear h h' ho ho'
    go_enter Tryz.func15, Tryz.ntmps15
    go_wp2
    go_loopw [5] (fun t wr => ∃ k : Nat, k ≤ n ∧ t = .int .i64 k ∧ Hid ((∀ i, i < k → xs[i]?.getD [] = ys[i]?.getD []) ∧ Below w.heap.size w wr)) (fun t _ => n - (intOf t).toNat)
    case atStart => exact ⟨0, Nat.zero_le _, rfl, fun i hi => absurd hi (by omega), Below.refl _ _⟩
    case round =>
      obtain ⟨k, hk, rfl, hR⟩ := hrel
      obtain ⟨wu, rfl⟩ : ∃ v, v = wr := ⟨_, rfl⟩
      by_cases hlt : k < n
      · obtain ⟨b, o, rfl, hb, hc⟩ := HX.out.2 (by omega)
        obtain ⟨b', o', rfl, hb', hc'⟩ := HY.out.2 (by omega)
        obtain ⟨A1, n1, c1, p0, p1⟩ := hc k hlt
        obtain ⟨A2, n2, c2, q0, q1⟩ := hc' k hlt
        have hl1 := HO.out _ (gmem (d := []) (show k < xs.length by rw [HX.out.1]; exact hlt))
        have hl2 := HO'.out _ (gmem (d := []) (show k < ys.length by rw [HY.out.1]; exact hlt))
        have g0 := (hR.out.2.cell (p := ⟨b, o + k, none⟩) hb).trans p0
        have g1 := (hR.out.2.cell (p := ⟨b', o' + k, none⟩) hb').trans q0
        have T := Lib.hid (fun W (hk : Kp wu W) => same26_any A1 A2 n1 c1 n2 c2 (xs[k]?.getD []) (ys[k]?.getD []) W ((p1.below hR.out.2).below hk) ((q1.below hR.out.2).below hk) (by rw [← p1.1]; exact hl1) (by rw [← q1.1]; exact hl2))
        have hS : ∀ w', Kp wu w' → (w'.cell? ⟨b, o + k, none⟩ = some (.slice A1 n1 c1) ∧ w'.cell? ⟨b', o' + k, none⟩ = some (.slice A2 n2 c2)) ∧ Kp wu w' := fun w' hk => ⟨⟨(Below.cell hk (p := ⟨b, o + k, none⟩) (Nat.lt_of_lt_of_le hb hR.out.2.size)).trans g0, (Below.cell hk (p := ⟨b', o' + k, none⟩) (Nat.lt_of_lt_of_le hb' hR.out.2.size)).trans g1⟩, hk⟩
        have HS := Lib.hid hS
        have hk0 := Kp.refl wu
        have HB := Lib.hid hR.out.2
        have i1 : (0 : Int) ≤ (k : Int) := by omega
        have i2 : (k : Int) < (n : Int) := by omega
        by_cases hxy : xs[k]?.getD [] = ys[k]?.getD []
        · have HN := Lib.hid (show ∀ i, i < k + 1 → xs[i]?.getD [] = ys[i]?.getD [] from fun i hi => by
            by_cases hik : i = k
            · subst hik; exact hxy
            · exact hR.out.1 i (by omega))
          rw [decide_eq_true hxy] at T
          have hnt : (!true) = false := rfl
          clear hR hc hc' hxy hS p0 p1 q0 q1 g0 g1 hl1 hl2
          go_wp2_with fail
          go_region_held3 (fun w' => (w'.cell? ⟨b, o + k, none⟩ = some (.slice A1 n1 c1) ∧ w'.cell? ⟨b', o' + k, none⟩ = some (.slice A2 n2 c2)) ∧ Kp wu w')
            (first | (with_reducible refine HS.out _ ?_; with_reducible assumption) | (with_reducible refine HS.out _ (Kp.drew ?_); with_reducible assumption) | (with_reducible refine' HS.out _ (Kp.drew (And.right ?_)); rotate_left; with_reducible assumption))
            (first
              | (go_at_call 36; have hk := And.right ‹_ ∧ Kp wu _›; refine (T.out _ hk).mono ?_; rintro e w2 ⟨rfl, hb2⟩; have hk2 := Kp.trans hk hb2; clear hk hb2))
          have HB2 := Lib.hid (HB.out.trans (Below.mono hk2 HB.out.size))
          clear hk0 hk2 HS T
          go_wp2
          go_roundw
          case rel => exact ⟨k + 1, by omega, by go_num, HN.out, HB2.out⟩
          case measure => simp [intOf]; omega
        · have HN := Lib.hid (show decide (xs = ys) = false by
            simp only [decide_eq_false_iff_not]
            intro e; exact hxy (by rw [e]))
          rw [decide_eq_false hxy] at T
          have hnt : (!false) = true := rfl
          clear hR hc hc' hxy hS p0 p1 q0 q1 g0 g1 hl1 hl2
          go_wp2_with fail
          go_region_held3 (fun w' => (w'.cell? ⟨b, o + k, none⟩ = some (.slice A1 n1 c1) ∧ w'.cell? ⟨b', o' + k, none⟩ = some (.slice A2 n2 c2)) ∧ Kp wu w')
            (first | (with_reducible refine HS.out _ ?_; with_reducible assumption) | (with_reducible refine HS.out _ (Kp.drew ?_); with_reducible assumption) | (with_reducible refine' HS.out _ (Kp.drew (And.right ?_)); rotate_left; with_reducible assumption))
            (first
              | (go_at_call 36; have hk := And.right ‹_ ∧ Kp wu _›; refine (T.out _ hk).mono ?_; rintro e w2 ⟨rfl, hb2⟩; have hk2 := Kp.trans hk hb2; clear hk hb2))
          have HB2 := Lib.hid (HB.out.trans (Below.mono hk2 HB.out.size))
          clear hk0 hk2 HS T
          go_wp2
          go_ret
          exact ⟨by rw [HN.out]; rfl, HB2.out⟩
      · obtain rfl : k = n := by omega
        have HN := Lib.hid (show decide (xs = ys) = true by
          simp only [decide_eq_true_eq]
          exact ext_p (by rw [HX.out.1, HY.out.1]) fun i hi => hR.out.1 i (by rw [HX.out.1] at hi; exact hi))
        have HB := Lib.hid hR.out.2
        clear hR
        go_wp2
        go_ret
        exact ⟨by rw [HN.out]; rfl, HB.out⟩
  · have hne2 : decide (xs = ys) = false := by
      simp only [decide_eq_false_iff_not]
      intro e; exact hnm (by rw [← h.1, ← h'.1, e])
    have hne : ((n : Int) != (m : Int)) = true := by simp; omega
    rw [hne2]
    clear h h' hne2 ho ho'
    go_enter Tryz.func15, Tryz.ntmps15
    go_wp2
    go_ret
    exact ⟨rfl, Below.refl _ _⟩

end Go.Proofs.YtdoeejcmaeefcaaGreat
