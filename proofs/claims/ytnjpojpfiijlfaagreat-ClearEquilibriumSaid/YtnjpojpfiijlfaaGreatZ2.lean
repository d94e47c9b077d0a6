/-
Long of layer 23: rationals larger than the statements consider. No statement of the seat is proved here; no conditions beyond those of each theorem.
-/
import Derived.Test.YtnjpojpfiijlfaaGreatZ1
namespace Go.Proofs.YtnjpojpfiijlfaaGreat
set_option linter.unusedVariables false
set_option linter.unusedSimpArgs false
open Go.RowKit
open Wd

/-- The cells of a rational. -/
abbrev QE := Bool × (Option Addr × Nat × Nat) × Bool × (Option Addr × Nat × Nat)
abbrev QE0 : QE := (false, (none, 0, 0), false, (none, 0, 0))
def QsAtR (w : World) (A : Option Addr) (m : Nat) (es : List QE) : Prop :=
  es.length = m ∧ (m ≠ 0 → ∃ b o, A = some ⟨b, o, none⟩ ∧ b < w.heap.size ∧ ∀ j, j < m → w.cell? ⟨b, o + j * 4, none⟩ = some (.bool (es[j]?.getD QE0).1) ∧ w.cell? ⟨b, o + j * 4 + 1, none⟩ = some (.slice (es[j]?.getD QE0).2.1.1 (es[j]?.getD QE0).2.1.2.1 (es[j]?.getD QE0).2.1.2.2) ∧
    w.cell? ⟨b, o + j * 4 + 2, none⟩ = some (.bool (es[j]?.getD QE0).2.2.1) ∧ w.cell? ⟨b, o + j * 4 + 3, none⟩ = some (.slice (es[j]?.getD QE0).2.2.2.1 (es[j]?.getD QE0).2.2.2.2.1 (es[j]?.getD QE0).2.2.2.2.2))
theorem QsAtR.below {w w' : World} {A : Option Addr} {m : Nat} {es : List QE} (h : QsAtR w A m es) (hb : Below w.heap.size w w') : QsAtR w' A m es := by
  refine ⟨h.1, fun hn => ?_⟩
  obtain ⟨b, o, rfl, hlt, hc⟩ := h.2 hn
  exact ⟨b, o, rfl, Nat.lt_of_lt_of_le hlt hb.size, fun j hj => ⟨(hb.cell hlt).trans (hc j hj).1, (hb.cell hlt).trans (hc j hj).2.1, (hb.cell hlt).trans (hc j hj).2.2.1, (hb.cell hlt).trans (hc j hj).2.2.2⟩⟩
theorem QsAtR.one {w : World} {g : Nat} {t : TypeId} {an an' : Bool} {aA aA' : Option Addr} {ak ac ak' ac' : Nat} (h : Blk w g t #[.bool an, .slice aA ak ac, .bool an', .slice aA' ak' ac']) : QsAtR w (some ⟨g, 0, none⟩) 1 [(an, (aA, ak, ac), an', (aA', ak', ac'))] := by
  refine ⟨rfl, fun _ => ⟨g, 0, rfl, h.lt, fun j hj => ?_⟩⟩
  obtain rfl : j = 0 := by omega
  exact ⟨h.cell 0, h.cell 1, h.cell 2, h.cell 3⟩
def bigQ (e : QE) : Bool := decide (6 < e.2.1.2.1) || decide (6 < e.2.2.2.2.1)

set_option maxRecDepth 100000 in
set_option maxHeartbeats 4000000 in
theorem long23_any (A : Option Addr) (m c : Nat) (es : List QE) (w : World) (h : QsAtR w A m es) (hm : m ≤ 1000000000000) :
    Calls Tryz.prog 31 #[.slice A m c] w fun e w' => e = .returned (.bool (es.any bigQ)) ∧ Below w.heap.size w w' := by
  have HX := Lib.hid h
  have HLN := Lib.hid h.1
  clear h
  go_enter Tryz.func31, Tryz.ntmps31
  go_wp2_with fail
  go_loopw [3] (fun t wr => ∃ k : Nat, k ≤ m ∧ t = .int .i64 k ∧ Hid (Below w.heap.size w wr ∧ (es.take k).any bigQ = false)) (fun t _ => m - (intOf t).toNat)
  case atStart => exact ⟨0, Nat.zero_le _, rfl, Below.refl _ _, by simp⟩
  case round =>
    obtain ⟨k, hk, rfl, hR⟩ := hrel
    by_cases hlt : k < m
    · obtain ⟨b, o, rfl, hb, hc⟩ := HX.out.2 (by omega)
      obtain ⟨-, y1, -, y3⟩ := hc k hlt
      have hkl : k < es.length := by rw [HLN.out]; exact hlt
      have htk : es.take (k + 1) = es.take k ++ [es[k]?.getD QE0] := by rw [List.take_add_one, List.getElem?_eq_getElem hkl]; rfl
      have hany : (es.take (k + 1)).any bigQ = bigQ (es[k]?.getD QE0) := by rw [htk, List.any_append, hR.out.2]; simp
      have hmm : bigQ (es[k]?.getD QE0) = true → es.any bigQ = true := fun hx => List.any_eq_true.2 ⟨_, getD_mem hkl, hx⟩
      unfold bigQ at hany hmm
      generalize (es[k]?.getD QE0).2.1.1 = a1 at *
      generalize (es[k]?.getD QE0).2.1.2.1 = n1 at *
      generalize (es[k]?.getD QE0).2.1.2.2 = c1 at *
      generalize (es[k]?.getD QE0).2.2.2.1 = a2 at *
      generalize (es[k]?.getD QE0).2.2.2.2.1 = n2 at *
      generalize (es[k]?.getD QE0).2.2.2.2.2 = c2 at *
      replace y1 := (hR.out.1.cell (p := ⟨b, o + k * 4 + 1, none⟩) hb).trans y1
      replace y3 := (hR.out.1.cell (p := ⟨b, o + k * 4 + 3, none⟩) hb).trans y3
      have k1 : (0 : Int) ≤ (k : Int) := by omega
      have k2 : (k : Int) < (m : Int) := by omega
      have HB := Lib.hid hR.out.1
      have HA := Lib.hid hany
      have HM := Lib.hid hmm
      clear hR hc hkl htk hany hmm
      by_cases h1 : 6 < n1
      · have d1 : decide ((6 : Int) < (n1 : Int)) = true := by simp; omega
        have HT := Lib.hid (HM.out (by simp [h1]))
        go_wp2
        go_ret
        exact ⟨by have := HT.out; unfold bigQ; rw [this]; rfl, HB.out⟩
      · have d1 : decide ((6 : Int) < (n1 : Int)) = false := by simp; omega
        by_cases h2 : 6 < n2
        · have d2 : decide ((6 : Int) < (n2 : Int)) = true := by simp; omega
          have HT := Lib.hid (HM.out (by simp [h2]))
          go_wp2
          go_ret
          exact ⟨by have := HT.out; unfold bigQ; rw [this]; rfl, HB.out⟩
        · have d2 : decide ((6 : Int) < (n2 : Int)) = false := by simp; omega
          have HF : Hid ((es.take (k + 1)).any bigQ = false) := by
            show _ = _
            have := HA.out
            unfold bigQ
            rw [this]
            simp [h1, h2]
          go_wp2
          go_roundw
          case rel => exact ⟨k + 1, by omega, by go_num, HB.out, HF.out⟩
          case measure => simp [intOf]; omega
    · obtain rfl : k = m := by omega
      have HT : Hid (es.any bigQ = false) := by
        show _ = _
        have := hR.out.2
        rwa [List.take_of_length_le (by rw [HLN.out]; omega)] at this
      have HB := Lib.hid hR.out.1
      clear hR
      go_wp2
      go_ret
      exact ⟨by rw [HT.out]; rfl, HB.out⟩

/-- A rational as an argument: whatever its words are. -/
def QRaw (w : World) (A : Option Addr) (n c : Nat) (A' : Option Addr) (n' c' : Nat) : Prop := ∃ l l', Wat w A n l ∧ Wat w A' n' l' ∧ n ≤ c ∧ n' ≤ c'
theorem QRaw.arg {w : World} {A A' : Option Addr} {n c n' c' : Nat} (h : QRaw w A n c A' n' c') (an an' : Bool) (hn : n ≤ 10000000000) (hn' : n' ≤ 10000000000) : ∃ q, QArg w an A n c an' A' n' c' q := by
  obtain ⟨l, l', h1, h2, h3, h4⟩ := h
  exact ⟨_, (qnum (sg an (val l)) (sg an' (val l'))).natAbs + 1, (qden (sg an' (val l'))).natAbs + 1, _, _, ⟨l, l', h1, h2, h3, h4, hn, hn', rfl, rfl⟩, Nat.lt_succ_self _, Nat.lt_succ_self _, rfl⟩

set_option maxRecDepth 100000 in
set_option maxHeartbeats 4000000 in
theorem supplyAt_no (A : Option Addr) (n c : Nat) (l : List (Int × Int)) (an an' : Bool) (aA aA' : Option Addr) (ak ac ak' ac' : Nat) (w : World) (h : StAt w A n l) (hm : n ≤ 1000000000000) (hk : chk true l ≠ 0) :
    Calls Tryz.prog 53 #[.slice A n c, .agg #[.bool an, .slice aA ak ac, .bool an', .slice aA' ak' ac']] w fun e w' => e = .returned (.tuple #[.int .i64 0, .int .i64 0, .int .i64 (chk true l)]) ∧ Below w.heap.size w w' := by
  have HC := Lib.hid (fun W (hW : Below w.heap.size w W) => checkOffer_any A n c l W (h.below hW) hm)
  generalize chk true l = x at *
  have dx : (x != 0) = true := by simpa using hk
  clear h hk
  go_enter Tryz.func53, Tryz.ntmps53
  go_wp2_with fail
  have hb0 : Below w.heap.size w (w.alloc (.cells #[.bool an, .slice aA ak ac, .bool an', .slice aA' ak' ac'] 42)) := (Below.refl _ _).alloc (Nat.le_refl _) _
  generalize w.alloc (.cells #[.bool an, .slice aA ak ac, .bool an', .slice aA' ak' ac'] 42) = W0 at *
  refine (HC.out W0 hb0).mono ?_
  rintro e w1 ⟨rfl, hb1⟩
  have HB1 := Lib.hid (hb0.trans (hb1.mono hb0.size))
  clear hb0 hb1 HC
  go_wp2
  refine bodyPost_ret (v := .tuple #[.int .i64 0, .int .i64 0, .int .i64 x]) ?_ rfl ⟨rfl, HB1.out⟩
  simp [results, Tryz.results53, go_sem]

end Go.Proofs.YtnjpojpfiijlfaaGreat
