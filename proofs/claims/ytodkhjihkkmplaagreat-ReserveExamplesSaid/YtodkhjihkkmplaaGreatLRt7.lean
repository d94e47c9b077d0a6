/-
Long of the layers 23, 28 and 30 for the statements of layer 30. No statement of the seat is proved here; no conditions beyond those of each theorem.
-/
import Derived.Test.YtodkhjihkkmplaaGreatLPQ
namespace Go.Proofs.YtodkhjihkkmplaaGreat
set_option linter.unusedVariables false
set_option linter.unusedSimpArgs false
open Go.RowKit
open Wd
/-- Units in memory whose curves may have any length. -/
def UsRaw (w : World) (A : Option Addr) (n : Nat) (us : List Un) : Prop :=
 us.length = n ∧ (n ≠ 0 → ∃ b o, A = some ⟨b, o, none⟩ ∧ b < w.heap.size ∧ ∀ j, j < n → ∃ A' n' c', (w.cell? ⟨b, o + j * 9, none⟩ = some (.int .i64 (us[j]?.getD U0).bus) ∧ w.cell? ⟨b, o + j * 9 + 1, none⟩ = some (.int .i64 (us[j]?.getD U0).mn) ∧ w.cell? ⟨b, o + j * 9 + 2, none⟩ = some (.slice A' n' c') ∧
  w.cell? ⟨b, o + j * 9 + 3, none⟩ = some (.int .i64 (us[j]?.getD U0).up) ∧ w.cell? ⟨b, o + j * 9 + 4, none⟩ = some (.int .i64 (us[j]?.getD U0).dn) ∧ w.cell? ⟨b, o + j * 9 + 5, none⟩ = some (.int .i64 (us[j]?.getD U0).start) ∧ w.cell? ⟨b, o + j * 9 + 6, none⟩ = some (.int .i64 (us[j]?.getD U0).idle) ∧
  w.cell? ⟨b, o + j * 9 + 7, none⟩ = some (.int .i64 (us[j]?.getD U0).spin) ∧ w.cell? ⟨b, o + j * 9 + 8, none⟩ = some (.int .i64 (us[j]?.getD U0).on)) ∧ StAt w A' n' (us[j]?.getD U0).st)
/-- Whether the statements pass over the units. -/
def longL : List Un → Bool
 | [] => false
 | u :: r => decide (20 < u.st.length) || longL r
def longB (us : List Un) (m : Nat) : Bool := decide (30 < us.length) || decide (30 < m) || longL us
theorem longL_get {us : List Un} (h : longL us = false) : ∀ {j : Nat}, j < us.length → (us[j]?.getD U0).st.length ≤ 20 := by
 induction us with
 | nil => intro j hj; simp at hj
 | cons u r ih =>
  unfold longL at h
  simp only [Bool.or_eq_false_iff, decide_eq_false_iff_not] at h
  intro j hj
  match j with
  | 0 => simp; omega
  | j + 1 => simpa using ih h.2 (by simpa using hj)
theorem UsRaw.at {w : World} {A : Option Addr} {n m : Nat} {us : List Un} (h : UsRaw w A n us) (hl : longB us m = false) : UsAt w A n us ∧ n ≤ 30 ∧ m ≤ 30 := by
 unfold longB at hl
 simp only [Bool.or_eq_false_iff, decide_eq_false_iff_not] at hl
 obtain ⟨⟨h1, h2⟩, h3⟩ := hl
 have hn := h.1
 refine ⟨⟨h.1, fun hn0 => ?_⟩, by omega, by omega⟩
 obtain ⟨b, o, rfl, hb, hc⟩ := h.2 hn0
 refine ⟨b, o, rfl, hb, fun j hj => ?_⟩
 obtain ⟨A', n', c', hcs, hs⟩ := hc j hj
 have := longL_get h3 (j := j) (by omega)
 exact ⟨A', n', c', hcs, hs, by rw [← hs.1]; omega⟩
theorem longL_drop {us : List Un} {k : Nat} (hk : k < us.length) : longL (us.drop k) = (decide (20 < (us[k]?.getD U0).st.length) || longL (us.drop (k + 1))) := by
 rw [dropU hk, longL]

set_option maxHeartbeats 2000000 in
theorem long28_any (A B : Option Addr) (n c m d : Nat) (us : List Un) (bs : List Bool) (w : World) (h : UsRaw w A n us) (h' : bs.length = m) :
  Calls Tryz.prog 33 #[.slice A n c, .slice B m d] w fun e w' => e = .returned (.bool (longB us m)) ∧ w = w' := by
 have hl := h.1
 by_cases h1 : 30 < n
 ·have e1 : longB us m = true := by unfold longB; simp; omega
  have d1 : decide (30 < n) = true := by simpa using h1
  rw [e1]
  clear h h' e1 hl
  go_enter Tryz.func33, Tryz.ntmps33
  go_wp2
  go_ret
  exact ⟨rfl, rfl⟩
 ·have d1 : decide (30 < n) = false := by simpa using h1
  have d1' : decide ((30 : Int) < (n : Int)) = false := by simp; omega
  by_cases h2 : 30 < m
  ·have e1 : longB us m = true := by unfold longB; simp; omega
   have d2 : decide (30 < m) = true := by simpa using h2
   have d2' : decide ((30 : Int) < (m : Int)) = true := by simp; omega
   rw [e1]
   clear h h' e1 hl
   go_enter Tryz.func33, Tryz.ntmps33
   go_wp2
   go_ret
   exact ⟨rfl, rfl⟩
  ·have d2 : decide (30 < m) = false := by simpa using h2
   have d2' : decide ((30 : Int) < (m : Int)) = false := by simp; omega
   have e1 : longB us m = longL us := by unfold longB; rw [hl, d1, d2]; rfl
   have HE := Lib.hid e1
   have HC := Lib.hid h.2
   have HL := Lib.hid hl
   clear h h' e1 hl
   go_enter Tryz.func33, Tryz.ntmps33
   go_wp2
   go_loop [5] (fun t => ∃ k : Nat, k ≤ n ∧ t = .int .i64 k ∧ Hid (longL us = longL (us.drop k))) (fun t => n - (intOf t).toNat)
   case atStart => exact ⟨0, Nat.zero_le _, rfl, rfl⟩
   case round =>
    obtain ⟨k, hk, rfl, hR⟩ := hrel
    by_cases hlt : k < n
    ·obtain ⟨b, o, rfl, hb, hcell⟩ := HC.out (by omega)
     obtain ⟨A', n', c', ⟨-, -, hc2, -⟩, hs⟩ := hcell k hlt
     have hld := longL_drop (us := us) (k := k) (by have := HL.out; omega)
     have hsl := hs.1
     generalize us[k]?.getD U0 = u at *
     have hki1 : (0 : Int) ≤ (k : Int) := by omega
     have hki2 : (k : Int) < (n : Int) := by omega
     by_cases h20 : 20 < n'
     ·have hfin : longB us m = true := by rw [HE.out, hR.out, hld, decide_eq_true (by omega)]; rfl
      have d3 : decide (20 < n') = true := by simpa using h20
      have d3' : decide ((20 : Int) < (n' : Int)) = true := by simp; omega
      have HF := Lib.hid hfin
      clear hfin hld hsl hs hcell hR
      go_wp2
      go_ret
      exact ⟨by rw [HF.out]; rfl, rfl⟩
     ·have hnew : longL us = longL (us.drop (k + 1)) := by rw [hR.out, hld, decide_eq_false (by omega)]; rfl
      have d3 : decide (20 < n') = false := by simpa using h20
      have d3' : decide ((20 : Int) < (n' : Int)) = false := by simp; omega
      have HF := Lib.hid hnew
      clear hnew hld hsl hs hcell hR
      go_wp2
      go_round
      case rel => exact ⟨k + 1, by omega, by go_num, HF.out⟩
      case measure => simp [intOf]; omega
    ·obtain rfl : k = n := by omega
     have hfin : longB us m = false := by rw [HE.out, hR.out, List.drop_of_length_le (by rw [HL.out]; exact Nat.le_refl _)]; rfl
     have HF := Lib.hid hfin
     clear hfin hR
     go_wp2
     go_ret
     exact ⟨by rw [HF.out]; rfl, rfl⟩

/-- The cells of a rational. -/
abbrev QE := Bool × (Option Addr × Nat × Nat) × Bool × (Option Addr × Nat × Nat)
abbrev QE0 : QE := (false, (none, 0, 0), false, (none, 0, 0))
def QsAtR (w : World) (A : Option Addr) (m : Nat) (es : List QE) : Prop :=
 es.length = m ∧ (m ≠ 0 → ∃ b o, A = some ⟨b, o, none⟩ ∧ b < w.heap.size ∧ ∀ j, j < m → w.cell? ⟨b, o + j * 4, none⟩ = some (.bool (es[j]?.getD QE0).1) ∧ w.cell? ⟨b, o + j * 4 + 1, none⟩ = some (.slice (es[j]?.getD QE0).2.1.1 (es[j]?.getD QE0).2.1.2.1 (es[j]?.getD QE0).2.1.2.2) ∧
  w.cell? ⟨b, o + j * 4 + 2, none⟩ = some (.bool (es[j]?.getD QE0).2.2.1) ∧ w.cell? ⟨b, o + j * 4 + 3, none⟩ = some (.slice (es[j]?.getD QE0).2.2.2.1 (es[j]?.getD QE0).2.2.2.2.1 (es[j]?.getD QE0).2.2.2.2.2))
theorem QsAtR.below {w w' : World} {A : Option Addr} {m : Nat} {es : List QE} (h : QsAtR w A m es) (hb : Below w.heap.size w w') : QsAtR w' A m es := by
 refine ⟨h.1, fun hn => ?_⟩
 obtain ⟨b, o, rfl, hlt, hc⟩ := h.2 hn
 exact ⟨b, o, rfl, Nat.lt_of_lt_of_le hlt hb.size, fun j hj => ⟨(hb.cell hlt).trans (hc j hj).1, (hb.cell hlt).trans (hc j hj).2.1, (hb.cell hlt).trans (hc j hj).2.2.1, (hb.cell hlt).trans (hc j hj).2.2.2⟩⟩
def bigQ (e : QE) : Bool := decide (6 < e.2.1.2.1) || decide (6 < e.2.2.2.2.1)

set_option maxRecDepth 100000 in
set_option maxHeartbeats 4000000 in
theorem long23_any (A : Option Addr) (m c : Nat) (es : List QE) (w : World) (h : QsAtR w A m es) (hm : m ≤ 1000000000000) :
  Calls Tryz.prog 34 #[.slice A m c] w fun e w' => e = .returned (.bool (es.any bigQ)) ∧ Below w.heap.size w w' := by
 have HX := Lib.hid h
 have HLN := Lib.hid h.1
 clear h
 go_enter Tryz.func34, Tryz.ntmps34
 go_wp2_with fail
 go_loopw [3] (fun t wr => ∃ k : Nat, k ≤ m ∧ t = .int .i64 k ∧ Hid (Below w.heap.size w wr ∧ (es.take k).any bigQ = false)) (fun t _ => m - (intOf t).toNat)
 case atStart => exact ⟨0, Nat.zero_le _, rfl, Below.refl _ _, by simp⟩
 case round =>
  obtain ⟨k, hk, rfl, hR⟩ := hrel
  by_cases hlt : k < m
  ·obtain ⟨b, o, rfl, hb, hc⟩ := HX.out.2 (by omega)
   obtain ⟨-, y1, -, y3⟩ := hc k hlt
   have hkl : k < es.length := by rw [HLN.out]; exact hlt
   have htk : es.take (k + 1) = es.take k ++ [es[k]?.getD QE0] := by rw [List.take_add_one, List.getElem?_eq_getElem hkl]; rfl
   have hany : (es.take (k + 1)).any bigQ = bigQ (es[k]?.getD QE0) := by rw [htk, List.any_append, hR.out.2]; simp
   have hmm : bigQ (es[k]?.getD QE0) = true → es.any bigQ = true := fun hx => List.any_eq_true.2 ⟨_, getD_mem hkl, hx⟩
   unfold bigQ at hany hmm
   generalize (es[k]?.getD QE0).2.1.1 = a1 at *
   generalize (es[k]?.getD QE0).2.1.2.1 = n1 at *
   generalize (es[k]?.getD QE0).2.1.2.2 = c1 at *
   generalize (es[k]?.getD QE0).2.2.2.1 = a2 at *
   generalize (es[k]?.getD QE0).2.2.2.2.1 = n2 at *
   generalize (es[k]?.getD QE0).2.2.2.2.2 = c2 at *
   replace y1 := (hR.out.1.cell (p := ⟨b, o + k * 4 + 1, none⟩) hb).trans y1
   replace y3 := (hR.out.1.cell (p := ⟨b, o + k * 4 + 3, none⟩) hb).trans y3
   have k1 : (0 : Int) ≤ (k : Int) := by omega
   have k2 : (k : Int) < (m : Int) := by omega
   have HB := Lib.hid hR.out.1
   have HA := Lib.hid hany
   have HM := Lib.hid hmm
   clear hR hc hkl htk hany hmm
   by_cases h1 : 6 < n1
   ·have d1 : decide ((6 : Int) < (n1 : Int)) = true := by simp; omega
    have HT := Lib.hid (HM.out (by simp [h1]))
    go_wp2
    go_ret
    exact ⟨by have := HT.out; unfold bigQ; rw [this]; rfl, HB.out⟩
   ·have d1 : decide ((6 : Int) < (n1 : Int)) = false := by simp; omega
    by_cases h2 : 6 < n2
    ·have d2 : decide ((6 : Int) < (n2 : Int)) = true := by simp; omega
     have HT := Lib.hid (HM.out (by simp [h2]))
     go_wp2
     go_ret
     exact ⟨by have := HT.out; unfold bigQ; rw [this]; rfl, HB.out⟩
    ·have d2 : decide ((6 : Int) < (n2 : Int)) = false := by simp; omega
     have HF : Hid ((es.take (k + 1)).any bigQ = false) := by
      show _ = _
      have := HA.out
      unfold bigQ
      rw [this]
      simp [h1, h2]
     go_wp2
     go_roundw
     case rel => exact ⟨k + 1, by omega, by go_num, HB.out, HF.out⟩
     case measure => simp [intOf]; omega
  ·obtain rfl : k = m := by omega
   have HT : Hid (es.any bigQ = false) := by
    show _ = _
    have := hR.out.2
    rwa [List.take_of_length_le (by rw [HLN.out]; omega)] at this
   have HB := Lib.hid hR.out.1
   clear hR
   go_wp2
   go_ret
   exact ⟨by rw [HT.out]; rfl, HB.out⟩


/-- Whether the statements of layer 30 pass over the arguments. -/
def long30B (us : List Un) (m : Nat) (es : List QE) : Bool := longB us m || (decide (30 < es.length) || es.any bigQ)
theorem long30_no {us : List Un} {m : Nat} {es : List QE} (h : long30B us m es = false) : longB us m = false ∧ es.length ≤ 30 ∧ es.any bigQ = false := by
 unfold long30B at h
 simp only [Bool.or_eq_false_iff, decide_eq_false_iff_not] at h
 exact ⟨h.1, by omega, h.2.2⟩
set_option maxHeartbeats 2000000 in
theorem long30_any (A B C : Option Addr) (n c m d p pc : Nat) (us : List Un) (bs : List Bool) (es : List QE) (w : World) (h : UsRaw w A n us) (h' : bs.length = m) (hg : QsAtR w C p es) :
  Calls Tryz.prog 10 #[.slice A n c, .slice B m d, .slice C p pc] w fun e w' => e = .returned (.bool (long30B us m es)) ∧ Below w.heap.size w w' := by
 have T1 := Lib.hid (long28_any A B n c m d us bs w h h')
 have T2 := Lib.hid (fun (hp : p ≤ 30) W (hW : Below w.heap.size w W) => long23_any C p pc es W (hg.below hW) (by omega))
 have hl := hg.1
 have hv : long30B us m es = (longB us m || (decide (30 < p) || es.any bigQ)) := by unfold long30B; rw [hl]
 have HV := Lib.hid hv
 clear h h' hg hl hv
 generalize longB us m = x1 at *
 generalize es.any bigQ = x2 at *
 by_cases h30 : 30 < p
 ·have d1 : decide ((30 : Int) < (p : Int)) = true := decide_eq_true (by omega)
  have d2 : decide (30 < p) = true := decide_eq_true h30
  rw [d2] at HV
  cases x1
  all_goals
   go_enter Tryz.func10, Tryz.ntmps10
   go_wp2_with fail
   refine T1.out.mono ?_
   rintro e w1 ⟨rfl, hw1⟩
   rw [← hw1]
   clear hw1
   go_wp2
   go_ret
   exact ⟨by rw [HV.out]; rfl, Below.refl _ _⟩
 ·have d1 : decide ((30 : Int) < (p : Int)) = false := decide_eq_false (by omega)
  have d2 : decide (30 < p) = false := decide_eq_false h30
  rw [d2] at HV
  cases x1
  ·go_enter Tryz.func10, Tryz.ntmps10
   go_wp2_with fail
   refine T1.out.mono ?_
   rintro e w1 ⟨rfl, hw1⟩
   rw [← hw1]
   clear hw1
   have T3 := Lib.hid (T2.out (by omega) w (Below.refl _ _))
   go_wp2_with fail
   refine T3.out.mono ?_
   rintro e w2 ⟨rfl, hb2⟩
   have HB := Lib.hid hb2
   clear hb2
   go_wp2
   go_ret
   exact ⟨by rw [HV.out]; rfl, HB.out⟩
  ·go_enter Tryz.func10, Tryz.ntmps10
   go_wp2_with fail
   refine T1.out.mono ?_
   rintro e w1 ⟨rfl, hw1⟩
   rw [← hw1]
   clear hw1
   go_wp2
   go_ret
   exact ⟨by rw [HV.out]; rfl, Below.refl _ _⟩

end Go.Proofs.YtodkhjihkkmplaaGreat
