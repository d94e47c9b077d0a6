/-
What the statements on package energy call: Same, Long, the units of the examples, gives, awake. awake of the statements on package energy. LeastCost and Allocate of package energy by one value each; Long of the statements on package energy. No statement of the seat is proved here; no conditions beyond those of each theorem.
-/
import Derived.Test.YtdoeejcmaeefcaaGreatHM
namespace Go.Proofs.YtdoeejcmaeefcaaGreat
set_option linter.unusedVariables false
set_option linter.unusedSimpArgs false
open Go.RowKit
open Wd
open En (Pc PU)

theorem int_ext {xs ys : List Int} {n : Nat} (h1 : xs.length = n) (h2 : ys.length = n) (h : ∀ i, i < n → xs[i]?.getD 0 = ys[i]?.getD 0) : xs = ys := by
  apply List.ext_getElem (by omega)
  intro i hi hj
  have := h i (by omega)
  rw [List.getElem?_eq_getElem hi, List.getElem?_eq_getElem hj] at this
  exact this


def exU : List Un := [⟨0, 2, [(5, 1), (4, 3)], 1, 1, 0, 0, 0, 1⟩, ⟨0, 0, [(3, 2), (3, 3)], 1, 1, 0, 0, 0, 1⟩]



theorem BsAt.new2 {w : World} {g : Nat} {t : TypeId} {a b : Bool} (h : Blk w g t #[.bool a, .bool b]) : BsAt w (some ⟨g, 0, none⟩) 2 [a, b] :=
  ⟨rfl, fun _ => ⟨g, 0, rfl, h.lt, fun j hj => by
    match j, hj with
    | 0, _ => exact h.cell 0
    | 1, _ => exact h.cell 1⟩⟩
theorem IsAt.new2 {w : World} {g : Nat} {t : TypeId} {a b : Int} (h : Blk w g t #[.int .i64 a, .int .i64 b]) : IsAt w (some ⟨g, 0, none⟩) 2 [a, b] :=
  ⟨rfl, fun _ => ⟨g, 0, rfl, h.lt, fun j hj => by
    match j, hj with
    | 0, _ => exact h.cell 0
    | 1, _ => exact h.cell 1⟩⟩
theorem ex_opt1 : En.Opt (pus exU [true, true]) 7 [5, 2] := ⟨rfl, 2, 1, by simp [En.Thr, pus, exU, PU.lo, PU.hi, En.qle]; omega⟩
theorem ex_opt2 : En.Opt (pus exU [true, true]) 9 [5, 4] := ⟨rfl, 3, 1, by simp [En.Thr, pus, exU, PU.lo, PU.hi, En.qle]; omega⟩
theorem ex_opt3 : En.Opt (pus exU [false, true]) 4 [0, 4] := ⟨rfl, 3, 1, by simp [En.Thr, pus, exU, PU.lo, PU.hi, En.qle]; omega⟩
theorem ex_e1 : aerr exU [true, true] 2 7 = 0 := by decide
theorem ex_e2 : aerr exU [true, true] 2 9 = 0 := by decide
theorem ex_e3 : aerr exU [false, true] 2 4 = 0 := by decide
theorem ex_e4 : aerr exU [true, true] 2 1 = 8 := by decide
theorem ex_e5 : aerr exU [true, true] 2 16 = 8 := by decide
theorem ex_e6 : aerr exU [true, true] 2 (-1) = 1 := by decide
theorem ex_r1 : rmin (exU.zip [true, true]) = 2 := by decide
theorem ex_r2 : rmax (exU.zip [true, true]) = 15 := by decide
theorem ex_c1 : En.costR (pus exU [true, true]) [5, 2] = 9 := by decide
theorem ex_c2 : En.costR (pus exU [true, true]) [5, 4] = 14 := by decide
theorem ex_c3 : En.costR (pus exU [false, true]) [0, 4] = 9 := by decide

end Go.Proofs.YtdoeejcmaeefcaaGreat

namespace Go.Proofs.YtdoeejcmaeefcaaGreat
set_option linter.unusedVariables false
set_option linter.unusedSimpArgs false
open Go.RowKit
open Wd
open En (Pc PU)

end Go.Proofs.YtdoeejcmaeefcaaGreat
namespace Go.Proofs.YtdoeejcmaeefcaaGreat
open Go.RowKit
open Wd
open En (Pc PU)
/-- The optimal row, where there is one. -/
noncomputable def optR (us : List Un) (bs : List Bool) (f : Int) : List Int := Classical.epsilon (En.Opt (pus us bs) f)
noncomputable def lcV (us : List Un) (bs : List Bool) (m : Nat) (f : Int) : Int := if aerr us bs m f = 0 then En.costR (pus us bs) (optR us bs f) else 0
def LcP (us : List Un) (bs : List Bool) (m : Nat) (f : Int) : Prop := aerr us bs m f = 0 → En.Opt (pus us bs) f (optR us bs f) ∧ (optR us bs f).length = m
theorem optR_eq {us : List Un} {bs : List Bool} {f : Int} {xs : List Int} (hok : ∀ u ∈ us, uchk u = 0) (h : En.Opt (pus us bs) f xs) : optR us bs f = xs :=
  En.Opt.only (pus_allok hok) (Classical.epsilon_spec (p := En.Opt (pus us bs) f) ⟨xs, h⟩) h

theorem elc_any (A B : Option Addr) (n c m d : Nat) (us : List Un) (bs : List Bool) (f : Int) (w : World) (h : UsAt w A n us) (h' : BsAt w B m bs) (hm : n ≤ 1000000000000) (hm' : m ≤ 1000000000000) :
    Calls Tryz.prog 48 #[.slice A n c, .slice B m d, .int .i64 f] w fun e w' => e = .returned (.tuple #[.int .i64 (lcV us bs m f), .int .i64 (aerr us bs m f)]) ∧ LcP us bs m f ∧ Below w.heap.size w w' := by
  by_cases he : aerr us bs m f = 0
  · obtain ⟨h1, _⟩ := aerr_ok he
    obtain ⟨_, hmn, hok⟩ := echk_ok h1
    have hnm : m = n := by rw [hmn]; exact h.1
    subst hnm
    refine (elc_ok A B m c d us bs f w h h' hm he).mono ?_
    rintro e w' ⟨xs, hO, hl, rfl, hb⟩
    have e1 := optR_eq hok hO
    refine ⟨?_, fun _ => by rw [e1]; exact ⟨hO, hl⟩, hb⟩
    unfold lcV
    rw [if_pos he, e1, he]
  · refine (elc_no A B n c m d us bs f w h h' hm hm' he).mono ?_
    rintro e w' ⟨rfl, hb⟩
    refine ⟨?_, fun h0 => absurd h0 he, hb⟩
    unfold lcV
    rw [if_neg he]

theorem ealloc_row (A B : Option Addr) (n c m d : Nat) (us : List Un) (bs : List Bool) (f : Int) (w : World) (h : UsAt w A n us) (h' : BsAt w B m bs) (hm : n ≤ 1000000000000) (he : aerr us bs m f = 0) :
    Calls Tryz.prog 65 #[.slice A n c, .slice B m d, .int .i64 f] w fun e w' => ∃ g, e = .returned (.tuple #[.slice (some ⟨g, 0, none⟩) n n, .int .i64 0]) ∧ IRow w' g (optR us bs f) ∧ (optR us bs f).length = n ∧ En.Opt (pus us bs) f (optR us bs f) ∧ w.heap.size ≤ g ∧ Below w.heap.size w w' := by
  obtain ⟨h1, h2, h3, h4⟩ := aerr_ok he
  obtain ⟨_, hmn, hok⟩ := echk_ok h1
  have hnm : m = n := by rw [hmn]; exact h.1
  subst hnm
  refine (ealloc_ok A B m c d us bs f w h h' hm h1 h2 h3 h4).mono ?_
  rintro e w' ⟨g, xs, rfl, hR, hl, hO, hg, hb⟩
  have e1 := optR_eq hok hO
  exact ⟨g, rfl, by rw [e1]; exact hR, by rw [e1]; exact hl, by rw [e1]; exact hO, hg, hb⟩

theorem costR_bd {us : List Un} {bs : List Bool} {xs : List Int} {n : Nat} (h1 : us.length = n) (h2 : bs.length = n) (hn : n ≤ 5) (hok : ∀ u ∈ us, uchk u = 0) (h : En.FeasR (pus us bs) xs) : (En.costR (pus us bs) xs).natAbs ≤ 45000000000000 := by
  have hl := (feas_get h).1
  rw [pus_len h1 h2] at hl
  have := ecI_bd (feas_inC h1 h2 hok h) n (by omega)
  rw [ecI_all h1 h2 hl] at this
  omega
theorem lcV_bd {us : List Un} {bs : List Bool} {m : Nat} {f : Int} (h2 : bs.length = m) (h : LcP us bs m f) : (lcV us bs m f).natAbs ≤ 45000000000000 := by
  unfold lcV
  by_cases he : aerr us bs m f = 0
  · rw [if_pos he]
    obtain ⟨h1, _⟩ := aerr_ok he
    obtain ⟨h5, hmn, hok⟩ := echk_ok h1
    exact costR_bd hmn.symm h2 (by omega) hok ((h he).1.feas (pus_allok hok))
  · rw [if_neg he]; simp

/-- Units in memory whose curves may have any length. -/
def UsRaw (w : World) (A : Option Addr) (n : Nat) (us : List Un) : Prop :=
  us.length = n ∧ (n ≠ 0 → ∃ b o, A = some ⟨b, o, none⟩ ∧ b < w.heap.size ∧ ∀ j, j < n → ∃ A' n' c', (w.cell? ⟨b, o + j * 9, none⟩ = some (.int .i64 (us[j]?.getD U0).bus) ∧ w.cell? ⟨b, o + j * 9 + 1, none⟩ = some (.int .i64 (us[j]?.getD U0).mn) ∧ w.cell? ⟨b, o + j * 9 + 2, none⟩ = some (.slice A' n' c') ∧
    w.cell? ⟨b, o + j * 9 + 3, none⟩ = some (.int .i64 (us[j]?.getD U0).up) ∧ w.cell? ⟨b, o + j * 9 + 4, none⟩ = some (.int .i64 (us[j]?.getD U0).dn) ∧ w.cell? ⟨b, o + j * 9 + 5, none⟩ = some (.int .i64 (us[j]?.getD U0).start) ∧ w.cell? ⟨b, o + j * 9 + 6, none⟩ = some (.int .i64 (us[j]?.getD U0).idle) ∧
    w.cell? ⟨b, o + j * 9 + 7, none⟩ = some (.int .i64 (us[j]?.getD U0).spin) ∧ w.cell? ⟨b, o + j * 9 + 8, none⟩ = some (.int .i64 (us[j]?.getD U0).on)) ∧ StAt w A' n' (us[j]?.getD U0).st)
/-- Whether the statements pass over the units. -/
def longL : List Un → Bool
  | [] => false
  | u :: r => decide (20 < u.st.length) || longL r
def longB (us : List Un) (m : Nat) : Bool := decide (30 < us.length) || decide (30 < m) || longL us
theorem longL_get {us : List Un} (h : longL us = false) : ∀ {j : Nat}, j < us.length → (us[j]?.getD U0).st.length ≤ 20 := by
  induction us with
  | nil => intro j hj; simp at hj
  | cons u r ih =>
    unfold longL at h
    simp only [Bool.or_eq_false_iff, decide_eq_false_iff_not] at h
    intro j hj
    match j with
    | 0 => simp; omega
    | j + 1 => simpa using ih h.2 (by simpa using hj)
theorem UsRaw.at {w : World} {A : Option Addr} {n m : Nat} {us : List Un} (h : UsRaw w A n us) (hl : longB us m = false) : UsAt w A n us ∧ n ≤ 30 ∧ m ≤ 30 := by
  unfold longB at hl
  simp only [Bool.or_eq_false_iff, decide_eq_false_iff_not] at hl
  obtain ⟨⟨h1, h2⟩, h3⟩ := hl
  have hn := h.1
  refine ⟨⟨h.1, fun hn0 => ?_⟩, by omega, by omega⟩
  obtain ⟨b, o, rfl, hb, hc⟩ := h.2 hn0
  refine ⟨b, o, rfl, hb, fun j hj => ?_⟩
  obtain ⟨A', n', c', hcs, hs⟩ := hc j hj
  have := longL_get h3 (j := j) (by omega)
  exact ⟨A', n', c', hcs, hs, by rw [← hs.1]; omega⟩
theorem longL_drop {us : List Un} {k : Nat} (hk : k < us.length) : longL (us.drop k) = (decide (20 < (us[k]?.getD U0).st.length) || longL (us.drop (k + 1))) := by
  rw [dropU hk, longL]

set_option maxHeartbeats 2000000 in
theorem long28_any (A B : Option Addr) (n c m d : Nat) (us : List Un) (bs : List Bool) (w : World) (h : UsRaw w A n us) (h' : bs.length = m) :
    Calls Tryz.prog 22 #[.slice A n c, .slice B m d] w fun e w' => e = .returned (.bool (longB us m)) ∧ w = w' := by
  have hl := h.1
  by_cases h1 : 30 < n
  · have e1 : longB us m = true := by unfold longB; simp; omega
    have d1 : decide (30 < n) = true := by simpa using h1
    rw [e1]
    clear h h' e1 hl
    go_enter Tryz.func22, Tryz.ntmps22
    go_wp2
    go_ret
    exact ⟨rfl, rfl⟩
  · have d1 : decide (30 < n) = false := by simpa using h1
    have d1' : decide ((30 : Int) < (n : Int)) = false := by simp; omega
    by_cases h2 : 30 < m
    · have e1 : longB us m = true := by unfold longB; simp; omega
      have d2 : decide (30 < m) = true := by simpa using h2
      have d2' : decide ((30 : Int) < (m : Int)) = true := by simp; omega
      rw [e1]
      clear h h' e1 hl
      go_enter Tryz.func22, Tryz.ntmps22
      go_wp2
      go_ret
      exact ⟨rfl, rfl⟩
    · have d2 : decide (30 < m) = false := by simpa using h2
      have d2' : decide ((30 : Int) < (m : Int)) = false := by simp; omega
      have e1 : longB us m = longL us := by unfold longB; rw [hl, d1, d2]; rfl
      have HE := Lib.hid e1
      have HC := Lib.hid h.2
      have HL := Lib.hid hl
      clear h h' e1 hl
      go_enter Tryz.func22, Tryz.ntmps22
      go_wp2
      go_loop [5] (fun t => ∃ k : Nat, k ≤ n ∧ t = .int .i64 k ∧ Hid (longL us = longL (us.drop k))) (fun t => n - (intOf t).toNat)
      case atStart => exact ⟨0, Nat.zero_le _, rfl, rfl⟩
      case round =>
        obtain ⟨k, hk, rfl, hR⟩ := hrel
        by_cases hlt : k < n
        · obtain ⟨b, o, rfl, hb, hcell⟩ := HC.out (by omega)
          obtain ⟨A', n', c', ⟨-, -, hc2, -⟩, hs⟩ := hcell k hlt
          have hld := longL_drop (us := us) (k := k) (by have := HL.out; omega)
          have hsl := hs.1
          generalize us[k]?.getD U0 = u at *
          have hki1 : (0 : Int) ≤ (k : Int) := by omega
          have hki2 : (k : Int) < (n : Int) := by omega
          by_cases h20 : 20 < n'
          · have hfin : longB us m = true := by rw [HE.out, hR.out, hld, decide_eq_true (by omega)]; rfl
            have d3 : decide (20 < n') = true := by simpa using h20
            have d3' : decide ((20 : Int) < (n' : Int)) = true := by simp; omega
            have HF := Lib.hid hfin
            clear hfin hld hsl hs hcell hR
            go_wp2
            go_ret
            exact ⟨by rw [HF.out]; rfl, rfl⟩
          · have hnew : longL us = longL (us.drop (k + 1)) := by rw [hR.out, hld, decide_eq_false (by omega)]; rfl
            have d3 : decide (20 < n') = false := by simpa using h20
            have d3' : decide ((20 : Int) < (n' : Int)) = false := by simp; omega
            have HF := Lib.hid hnew
            clear hnew hld hsl hs hcell hR
            go_wp2
            go_round
            case rel => exact ⟨k + 1, by omega, by go_num, HF.out⟩
            case measure => simp [intOf]; omega
        · obtain rfl : k = n := by omega
          have hfin : longB us m = false := by rw [HE.out, hR.out, List.drop_of_length_le (by rw [HL.out]; exact Nat.le_refl _)]; rfl
          have HF := Lib.hid hfin
          clear hfin hR
          go_wp2
          go_ret
          exact ⟨by rw [HF.out]; rfl, rfl⟩

end Go.Proofs.YtdoeejcmaeefcaaGreat
