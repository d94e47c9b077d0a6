/-
The references of layers 1 and 2: Int, Same, Is. The references of layers 2 and 23: Is, Rows. The statements of layer 24: curve. The statements of layer 24: told. The reference of layer 24: Same. No statement of the seat is proved here; no conditions beyond those of each theorem.
-/
import Derived.Test.YtnjpojpfiijlfaaGreatGI
import Derived.Test.YtnjpojpfiijlfaaGreatGH
import Derived.Test.YtnjpojpfiijlfaaGreatK3
import Derived.Test.YtnjpojpfiijlfaaGreatAQ
import Derived.Test.YtnjpojpfiijlfaaGreatGG
namespace Go.Proofs.YtnjpojpfiijlfaaGreat
set_option linter.unusedVariables false
set_option linter.unusedSimpArgs false
open Go.RowKit
open Wd

set_option maxHeartbeats 1000000 in
theorem rint_any (z : Int) (w : World) (h1 : -9223372036854775808 ≤ z) (h2 : z ≤ 9223372036854775807) :
    Calls Tryz.prog 45 #[.int .i64 z] w (RetQ w (z : Rat)) := by
  have T := Lib.hid (fun W => rfrom_any z W h1 h2)
  have en : ((z : Int) : Rat).num = z := Rat.num_intCast z
  have ed : ((z : Int) : Rat).den = 1 := Rat.den_intCast z
  rw [← en] at T
  rw [en] at T
  generalize ((z : Int) : Rat) = q at *
  have ED := Lib.hid ed
  have EN := Lib.hid en
  clear ed en h1 h2
  go_enter Tryz.func45, Tryz.ntmps45
  go_wp2_with fail
  have hB0 := Blk.new w 42 #[.bool false, .slice none 0 0, .bool false, .slice none 0 0]
  have hBW : Below w.heap.size w (w.alloc (.cells #[.bool false, .slice none 0 0, .bool false, .slice none 0 0] 42)) := (Below.refl _ _).alloc (Nat.le_refl _) _
  have hsz : (w.alloc (.cells #[.bool false, .slice none 0 0, .bool false, .slice none 0 0] 42)).heap.size = w.heap.size + 1 := by simp
  generalize w.alloc (.cells #[.bool false, .slice none 0 0, .bool false, .slice none 0 0] 42) = W at *
  have HSZ := Lib.hid hsz
  clear hsz
  refine (T.out W).mono ?_
  rw [← EN.out]
  rintro e w3 ⟨A3, k3, c3, rfl, hk3, hW3, hF3, hb3⟩
  have hr3 := (RS4.start hB0).call hb3
  obtain ⟨_, _, _, _, c0, c1, c2, c4, f0, f1, f2, f3⟩ := hr3.four
  have hW4 : Wat w3 none 0 (denW q.den) := by rw [ED.out]; exact Wat.nil
  have hF4 : Fresh W.heap.size w3 none 0 := Fresh.nil
  have hfin := retQ_close (c' := 0) hBW (Nat.le_refl _) (by have := HSZ.out; omega) hr3 hk3 (Nat.le_refl 0) hW3 hW4 hF3 hF4
  obtain ⟨d0, d1, d2, d3, -, -, -, -⟩ := (hr3.done (.bool (decide (q.num < 0))) (.slice A3 k3 c3) (.bool false) (.slice none 0 0)).four
  have HF := Lib.hid hfin
  clear hfin hB0 hr3 hW3 hF3 hW4 hF4 hb3
  go_wp2
  refine bodyPost_ret (v := .agg #[.bool (decide (q.num < 0)), .slice A3 k3 c3, .bool false, .slice none 0 0]) ?_ rfl HF.out
  simp [results, Tryz.results45, go_sem, d0, d1, d2, d3]


set_option maxRecDepth 100000 in
set_option maxHeartbeats 1000000 in
theorem rsame_yes (neg : Bool) (A A' : Option Addr) (n c c' : Nat) (l : List Nat) (w : World) (h : Wat w A n l) (h' : Wat w A' n l) (hm : n ≤ 1000000) :
    Calls Tryz.prog 99 #[.agg #[.bool neg, .slice A n c], .agg #[.bool neg, .slice A' n c']] w fun e w' => e = .returned (.bool true) ∧ Below w.heap.size w w' := by
  have HX := Lib.hid h
  have HY := Lib.hid h'
  have hne : ((n : Int) != (n : Int)) = false := by simp
  have hne2 : (!neg == neg) = false := by cases neg <;> rfl
  have hne3 : (neg != neg) = false := by cases neg <;> rfl
  clear h h'
  go_enter Tryz.func99, Tryz.ntmps99
  go_wp2_with fail
  have hB0 := (Blk.new w 40 #[.bool neg, .slice A n c]).alloc (.cells #[.bool neg, .slice A' n c'] 40)
  have hB1 := Blk.new1 w (.cells #[.bool neg, .slice A n c] 40) 40 #[.bool neg, .slice A' n c']
  have hBW : Below w.heap.size w ((w.alloc (.cells #[.bool neg, .slice A n c] 40)).alloc (.cells #[.bool neg, .slice A' n c'] 40)) := ((Below.refl _ _).alloc (Nat.le_refl _) _).alloc (by simp only [World.size_alloc]; omega) _
  have hsz : ((w.alloc (.cells #[.bool neg, .slice A n c] 40)).alloc (.cells #[.bool neg, .slice A' n c'] 40)).heap.size = w.heap.size + 1 + 1 := by simp
  generalize (w.alloc (.cells #[.bool neg, .slice A n c] 40)).alloc (.cells #[.bool neg, .slice A' n c'] 40) = W at *
  have HSZ := Lib.hid hsz
  clear hsz
  have HB0 := Lib.hid hB0
  have HB1 := Lib.hid hB1
  have HBW := Lib.hid hBW
  clear hB0 hB1 hBW
  go_loopw [5] (fun t wr => ∃ k : Nat, k ≤ n ∧ t = .int .i64 k ∧ Hid (Below W.heap.size W wr)) (fun t _ => n - (intOf t).toNat)
  case atStart => exact ⟨0, Nat.zero_le _, rfl, Below.refl _ _⟩
  case round =>
    obtain ⟨k, hk, rfl, hB⟩ := hrel
    obtain ⟨a0, a1, -, -⟩ := (HB0.out.below hB.out HB0.out.lt).two
    obtain ⟨b0, b1, -, -⟩ := (HB1.out.below hB.out HB1.out.lt).two
    by_cases hlt : k < n
    · obtain ⟨b, o, rfl, hb, hc⟩ := HX.out.2.2 (by omega)
      obtain ⟨b', o', rfl, hb', hc'⟩ := HY.out.2.2 (by omega)
      have c1 := ((HBW.out.trans (hB.out.mono HBW.out.size)).cell (p := ⟨b, o + k, none⟩) hb).trans (hc k hlt)
      have c2 := ((HBW.out.trans (hB.out.mono HBW.out.size)).cell (p := ⟨b', o' + k, none⟩) hb').trans (hc' k hlt)
      have hki1 : (0 : Int) ≤ (k : Int) := by omega
      have hki2 : (k : Int) < (n : Int) := by omega
      clear hc hc'
      have HBD := fun q => below_drewN hB.out q
      have HBD := Lib.hid HBD
      generalize ((l[k]?.getD 0 : Nat) : Int) = x at *
      have d1 : (x != x) = false := by simp
      clear hB
      go_wp2
      go_quiet (fail)
      go_wp2
      go_roundw
      case rel => exact ⟨k + 1, by omega, by go_num, HBD.out _⟩
      case measure => simp [intOf]; omega
    · obtain rfl : k = n := by omega
      have hfin : Below w.heap.size w wr := HBW.out.trans (hB.out.mono HBW.out.size)
      have HF := Lib.hid hfin
      clear hfin
      go_wp2
      go_ret
      exact ⟨rfl, HF.out⟩

end Go.Proofs.YtnjpojpfiijlfaaGreat

namespace Go.Proofs.YtnjpojpfiijlfaaGreat
set_option linter.unusedVariables false
set_option linter.unusedSimpArgs false
open Go.RowKit
open Wd

set_option maxRecDepth 100000 in
set_option maxHeartbeats 1000000 in
theorem ris_yes (q : Rat) (A B A' B' : Option Addr) (k c k' c' d d' : Nat) (w : World) (h : WQ w q A k c A' k' c') (h' : WQ w q B k d B' k' d') (hk : k ≤ 1000000) (hk' : k' ≤ 1000000) :
    Calls Tryz.prog 42 #[.agg #[.bool (decide (q.num < 0)), .slice A k c, .bool false, .slice A' k' c'], .agg #[.bool (decide (q.num < 0)), .slice B k d, .bool false, .slice B' k' d']] w fun e w' => e = .returned (.bool true) ∧ Below w.heap.size w w' := by
  have T1 := Lib.hid (fun W (hW : Below w.heap.size w W) => rsame_yes (decide (q.num < 0)) A B k c d _ W (h.2.2.1.below hW) (h'.2.2.1.below hW) hk)
  have T2 := Lib.hid (fun W (hW : Below w.heap.size w W) => rsame_yes false A' B' k' c' d' _ W (h.2.2.2.below hW) (h'.2.2.2.below hW) hk')
  generalize decide (q.num < 0) = s at *
  clear h h'
  go_enter Tryz.func42, Tryz.ntmps42
  go_wp2_with fail
  have hB0 := (Blk.new w 42 #[.bool s, .slice A k c, .bool false, .slice A' k' c']).alloc (.cells #[.bool s, .slice B k d, .bool false, .slice B' k' d'] 42)
  have hB1 := Blk.new1 w (.cells #[.bool s, .slice A k c, .bool false, .slice A' k' c'] 42) 42 #[.bool s, .slice B k d, .bool false, .slice B' k' d']
  have hBW : Below w.heap.size w ((w.alloc (.cells #[.bool s, .slice A k c, .bool false, .slice A' k' c'] 42)).alloc (.cells #[.bool s, .slice B k d, .bool false, .slice B' k' d'] 42)) := ((Below.refl _ _).alloc (Nat.le_refl _) _).alloc (by simp only [World.size_alloc]; omega) _
  have hsz : ((w.alloc (.cells #[.bool s, .slice A k c, .bool false, .slice A' k' c'] 42)).alloc (.cells #[.bool s, .slice B k d, .bool false, .slice B' k' d'] 42)).heap.size = w.heap.size + 1 + 1 := by simp
  generalize (w.alloc (.cells #[.bool s, .slice A k c, .bool false, .slice A' k' c'] 42)).alloc (.cells #[.bool s, .slice B k d, .bool false, .slice B' k' d'] 42) = W at *
  have HSZ := Lib.hid hsz
  clear hsz
  refine (T1.out W hBW).mono ?_
  rintro e w1 ⟨rfl, hb1⟩
  have hB0 := hB0.below hb1 hB0.lt
  have hB1 := hB1.below hb1 hB1.lt
  have hb2 := hBW.trans (hb1.mono hBW.size)
  obtain ⟨a0, a1, a2, a3, -, -, -, -⟩ := hB0.four
  obtain ⟨b0, b1, b2, b3, -, -, -, -⟩ := hB1.four
  have hT2 := T2.out w1 hb2
  have HB2 := Lib.hid hb2
  have HT2 := Lib.hid hT2
  clear hb1 hb2 hBW T1 T2 hT2 hB0 hB1
  go_wp2_with fail
  refine HT2.out.mono ?_
  rintro e w2 ⟨rfl, hb3⟩
  have hfin := HB2.out.trans (hb3.mono HB2.out.size)
  have HF := Lib.hid hfin
  clear hfin hb3 HT2
  go_wp2
  go_ret
  exact ⟨rfl, HF.out⟩

/-- A row of canonical rationals, wherever it lies. -/
def QsAt (w : World) (A : Option Addr) (n : Nat) (ps : List Rat) : Prop :=
  ps.length = n ∧ (n ≠ 0 → ∃ b o, A = some ⟨b, o, none⟩ ∧ b < w.heap.size ∧ ∀ j, j < n → ∃ A1 k c A2 k' c',
    w.cell? ⟨b, o + j * 4, none⟩ = some (.bool (decide ((ps[j]?.getD 0).num < 0))) ∧ w.cell? ⟨b, o + j * 4 + 1, none⟩ = some (.slice A1 k c) ∧ w.cell? ⟨b, o + j * 4 + 2, none⟩ = some (.bool false) ∧ w.cell? ⟨b, o + j * 4 + 3, none⟩ = some (.slice A2 k' c') ∧
    WQ w (ps[j]?.getD 0) A1 k c A2 k' c')
theorem QsAt.below {w w' : World} {A : Option Addr} {n : Nat} {ps : List Rat} (h : QsAt w A n ps) (hb : Below w.heap.size w w') : QsAt w' A n ps := by
  refine ⟨h.1, fun h0 => ?_⟩
  obtain ⟨b, o, e, hlt, hc⟩ := h.2 h0
  refine ⟨b, o, e, Nat.lt_of_lt_of_le hlt hb.size, fun j hj => ?_⟩
  obtain ⟨A1, k, c, A2, k', c', g0, g1, g2, g3, g4⟩ := hc j hj
  exact ⟨A1, k, c, A2, k', c', (hb.cell (p := ⟨b, _, none⟩) hlt).trans g0, (hb.cell (p := ⟨b, _, none⟩) hlt).trans g1, (hb.cell (p := ⟨b, _, none⟩) hlt).trans g2, (hb.cell (p := ⟨b, _, none⟩) hlt).trans g3, g4.below hb⟩
theorem QRow.at {w : World} {g n : Nat} {ps : List Rat} (h : QRow w g n ps) : QsAt w (some ⟨g, 0, none⟩) n ps := by
  obtain ⟨h1, cs, h2, h3, h4, h5⟩ := h
  refine ⟨h1, fun h0 => ⟨g, 0, rfl, h2.lt, fun j hj => ?_⟩⟩
  obtain ⟨A, k, c, A', k', c', e0, e1, e2, e3, g1, g2, g3, g4⟩ := h5 j hj
  refine ⟨A, k, c, A', k', c', ?_, ?_, ?_, ?_, g1, g2, g3, g4⟩
  · rw [Nat.zero_add, h2.cell]; exact e0
  · rw [Nat.zero_add, h2.cell]; exact e1
  · rw [Nat.zero_add, h2.cell]; exact e2
  · rw [Nat.zero_add, h2.cell]; exact e3
theorem Wat.len {w : World} {A : Option Addr} {n : Nat} {l : List Nat} (h : Wat w A n l) : n = l.length := h.1.symm

set_option maxRecDepth 100000 in
set_option maxHeartbeats 1000000 in
theorem rrows_yes (A B : Option Addr) (n c d : Nat) (ps : List Rat) (w : World) (h : QsAt w A n ps) (h' : QsAt w B n ps) (hn : n ≤ 1000000) (hs : ∀ p ∈ ps, (digs p.num.natAbs).length ≤ 1000000 ∧ (denW p.den).length ≤ 1000000) :
    Calls Tryz.prog 41 #[.slice A n c, .slice B n d] w fun e w' => e = .returned (.bool true) ∧ Below w.heap.size w w' := by
  have HX := Lib.hid h
  have HY := Lib.hid h'
  have HSZ := Lib.hid hs
  have hne : ((n : Int) != (n : Int)) = false := by simp
  clear h h' hs
  go_enter Tryz.func41, Tryz.ntmps41
  go_wp2_with fail
  go_loopw [5] (fun t wr => ∃ k : Nat, k ≤ n ∧ t = .int .i64 k ∧ Hid (Below w.heap.size w wr)) (fun t _ => n - (intOf t).toNat)
  case atStart => exact ⟨0, Nat.zero_le _, rfl, Below.refl _ _⟩
  case round =>
    obtain ⟨k, hk, rfl, hB⟩ := hrel
    by_cases hlt : k < n
    · obtain ⟨b, o, rfl, hb, hc⟩ := HX.out.2 (by omega)
      obtain ⟨b', o', rfl, hb', hc'⟩ := HY.out.2 (by omega)
      obtain ⟨A1, k1, d1, A2, k2, d2, e0, e1, e2, e3, e4⟩ := hc k hlt
      obtain ⟨B1, k3, d3, B2, k4, d4, f0, f1, f2, f3, f4⟩ := hc' k hlt
      have hp := HSZ.out (ps[k]?.getD 0) (by rw [List.getElem?_eq_getElem (by rw [HX.out.1]; exact hlt)]; exact List.getElem_mem _)
      obtain rfl : k1 = k3 := e4.2.2.1.len.trans f4.2.2.1.len.symm
      obtain rfl : k2 = k4 := e4.2.2.2.len.trans f4.2.2.2.len.symm
      have T := fun W (hW : Kp wr W) => ris_yes _ A1 B1 A2 B2 k1 d1 k2 d2 d3 d4 W ((e4.below hB.out).below hW) ((f4.below hB.out).below hW) (by rw [e4.2.2.1.len]; exact hp.1) (by rw [e4.2.2.2.len]; exact hp.2)
      have HT := Lib.hid T
      have hki1 : (0 : Int) ≤ (k : Int) := by omega
      have hki2 : (k : Int) < (n : Int) := by omega
      have c0 := (hB.out.cell (p := ⟨b, o + k * 4, none⟩) hb).trans e0
      have c1 := (hB.out.cell (p := ⟨b, o + k * 4 + 1, none⟩) hb).trans e1
      have c2 := (hB.out.cell (p := ⟨b, o + k * 4 + 2, none⟩) hb).trans e2
      have c3 := (hB.out.cell (p := ⟨b, o + k * 4 + 3, none⟩) hb).trans e3
      have g0 := (hB.out.cell (p := ⟨b', o' + k * 4, none⟩) hb').trans f0
      have g1 := (hB.out.cell (p := ⟨b', o' + k * 4 + 1, none⟩) hb').trans f1
      have g2 := (hB.out.cell (p := ⟨b', o' + k * 4 + 2, none⟩) hb').trans f2
      have g3 := (hB.out.cell (p := ⟨b', o' + k * 4 + 3, none⟩) hb').trans f3
      generalize decide ((ps[k]?.getD 0).num < 0) = s at *
      have hb1 : b < wr.heap.size := Nat.lt_of_lt_of_le hb hB.out.size
      have hb1' : b' < wr.heap.size := Nat.lt_of_lt_of_le hb' hB.out.size
      have hS : ∀ w', Kp wr w' → (w'.cell? ⟨b, o + k * 4, none⟩ = some (.bool s) ∧ w'.cell? ⟨b, o + k * 4 + 1, none⟩ = some (.slice A1 k1 d1) ∧ w'.cell? ⟨b, o + k * 4 + 2, none⟩ = some (.bool false) ∧ w'.cell? ⟨b, o + k * 4 + 3, none⟩ = some (.slice A2 k2 d2) ∧ w'.cell? ⟨b', o' + k * 4, none⟩ = some (.bool s) ∧ w'.cell? ⟨b', o' + k * 4 + 1, none⟩ = some (.slice B1 k1 d3) ∧ w'.cell? ⟨b', o' + k * 4 + 2, none⟩ = some (.bool false) ∧ w'.cell? ⟨b', o' + k * 4 + 3, none⟩ = some (.slice B2 k2 d4)) ∧ Kp wr w' := fun w' hk => ⟨⟨(hk.cell (p := ⟨b, _, none⟩) hb1).trans c0, (hk.cell (p := ⟨b, _, none⟩) hb1).trans c1, (hk.cell (p := ⟨b, _, none⟩) hb1).trans c2, (hk.cell (p := ⟨b, _, none⟩) hb1).trans c3, (hk.cell (p := ⟨b', _, none⟩) hb1').trans g0, (hk.cell (p := ⟨b', _, none⟩) hb1').trans g1, (hk.cell (p := ⟨b', _, none⟩) hb1').trans g2, (hk.cell (p := ⟨b', _, none⟩) hb1').trans g3⟩, hk⟩
      have HS := Lib.hid hS
      have k0 := Kp.refl wr
      clear hc hc' T e0 e1 e2 e3 e4 f0 f1 f2 f3 f4 hp hS c0 c1 c2 c3 g0 g1 g2 g3
      go_wp2_with fail
      go_region_held3 (fun w' => (w'.cell? ⟨b, o + k * 4, none⟩ = some (.bool s) ∧ w'.cell? ⟨b, o + k * 4 + 1, none⟩ = some (.slice A1 k1 d1) ∧ w'.cell? ⟨b, o + k * 4 + 2, none⟩ = some (.bool false) ∧ w'.cell? ⟨b, o + k * 4 + 3, none⟩ = some (.slice A2 k2 d2) ∧ w'.cell? ⟨b', o' + k * 4, none⟩ = some (.bool s) ∧ w'.cell? ⟨b', o' + k * 4 + 1, none⟩ = some (.slice B1 k1 d3) ∧ w'.cell? ⟨b', o' + k * 4 + 2, none⟩ = some (.bool false) ∧ w'.cell? ⟨b', o' + k * 4 + 3, none⟩ = some (.slice B2 k2 d4)) ∧ Kp wr w')
        (first | (with_reducible refine HS.out _ ?_; with_reducible assumption) | (with_reducible refine HS.out _ (Kp.drew ?_); with_reducible assumption) | (with_reducible refine' HS.out _ (Kp.drew (And.right ?_)); rotate_left; with_reducible assumption))
        (first
          | (go_at_call 42; have hk := And.right ‹_ ∧ Kp wr _›; refine (HT.out _ hk).mono ?_; rintro e w2 ⟨rfl, hb3⟩; have hk3 := hk.trans hb3))
      have hfin := hB.out.trans (Below.mono hk3 hB.out.size)
      have HF := Lib.hid hfin
      clear hfin hb3 HT
      go_wp2
      go_roundw
      case rel => exact ⟨k + 1, by omega, by go_num, HF.out⟩
      case measure => simp [intOf]; omega
    · obtain rfl : k = n := by omega
      go_wp2
      go_ret
      exact ⟨rfl, hB.out⟩

end Go.Proofs.YtnjpojpfiijlfaaGreat

namespace Go.Proofs.YtnjpojpfiijlfaaGreat
set_option linter.unusedVariables false
set_option linter.unusedSimpArgs false
open Go.RowKit
open Wd

def stCells (l : List (Int × Int)) : List Value := l.flatMap fun s => [.int .i64 s.1, .int .i64 s.2]
theorem stCells_append (a b : List (Int × Int)) : stCells (a ++ b) = stCells a ++ stCells b := by simp [stCells]
theorem stCells_len (l : List (Int × Int)) : (stCells l).length = l.length * 2 := by
  induction l with
  | nil => rfl
  | cons s l ih =>
    have : stCells (s :: l) = [.int .i64 s.1, .int .i64 s.2] ++ stCells l := by simp [stCells]
    rw [this, List.length_append, ih]
    simp
    omega
theorem stCells_get : ∀ (l : List (Int × Int)) (j : Nat), j < l.length → (stCells l)[j * 2]? = some (.int .i64 (l[j]?.getD (0, 0)).1) ∧ (stCells l)[j * 2 + 1]? = some (.int .i64 (l[j]?.getD (0, 0)).2)
  | [], j, h => absurd h (by simp)
  | s :: l, 0, _ => by simp [stCells]
  | s :: l, j + 1, h => by
    have e : stCells (s :: l) = .int .i64 s.1 :: .int .i64 s.2 :: stCells l := by simp [stCells]
    have ih := stCells_get l j (by simpa using h)
    rw [e, show (j + 1) * 2 = j * 2 + 1 + 1 by omega, show j * 2 + 1 + 1 + 1 = (j * 2 + 1) + 1 + 1 by omega, List.getElem?_cons_succ, List.getElem?_cons_succ, List.getElem?_cons_succ, List.getElem?_cons_succ, List.getElem?_cons_succ]
    exact ih
theorem stCells_one (l : List (Int × Int)) : ∀ u ∈ stCells l, u.oneCell' = true := by
  intro u hu
  obtain ⟨s, _, h⟩ := List.mem_flatMap.1 hu
  simp at h
  rcases h with rfl | rfl <;> rfl
theorem Own.steps {base : Nat} {e : TypeId} {w : World} {A : Option Addr} {n c : Nat} {l : List (Int × Int)} (h : Own base e 2 w A n c (stCells l)) (hf : ∀ s ∈ l, Fits s.1 ∧ Fits s.2) : StAt w A n l := by
  have hl : l.length = n := by have := h.1; rw [stCells_len] at this; omega
  refine ⟨hl, hf, fun hn => ?_⟩
  obtain ⟨g, cap, hv, hb, hlt⟩ := World.ownsRow.form h (by omega)
  simp at hv
  obtain ⟨rfl, rfl⟩ := hv
  have hcl := stCells_len l
  refine ⟨g, 0, rfl, hlt, fun j hj => ?_⟩
  obtain ⟨g1, g2⟩ := stCells_get l j (by omega)
  rw [Nat.zero_add, World.ownsRow.cellAt h (j * 2) (by omega), World.ownsRow.cellAt h (j * 2 + 1) (by omega)]
  exact ⟨g1, g2⟩
theorem info_step : (Tryz.prog.info? 74).map (fun i => (i.zero, i.size, i.bytes)) = some (some (.agg #[.int .i64 0, .int .i64 0]), 2, 16) := by kernel_rfl
/-- The steps of a list qty, price, qty, price. -/
def prs (xs : List Int) : Nat → List (Int × Int)
  | 0 => []
  | k + 1 => prs xs k ++ [(xs[2 * k]?.getD 0, xs[2 * k + 1]?.getD 0)]
theorem prs_len (xs : List Int) : ∀ k, (prs xs k).length = k
  | 0 => rfl
  | k + 1 => by rw [prs, List.length_append, prs_len xs k]; rfl
theorem prs_fits {xs : List Int} (h : ∀ i : Nat, Fits (xs[i]?.getD 0)) : ∀ k, ∀ s ∈ prs xs k, Fits s.1 ∧ Fits s.2
  | 0, s, hs => by simp [prs] at hs
  | k + 1, s, hs => by
    rw [prs, List.mem_append] at hs
    rcases hs with hs | hs
    · exact prs_fits h k s hs
    · simp at hs
      rw [hs]
      exact ⟨h _, h _⟩

set_option maxRecDepth 100000 in
set_option maxHeartbeats 4000000 in
theorem curve_any (A : Option Addr) (n c : Nat) (xs : List Int) (w : World) (h : IsAt w A (2 * n) xs) (hn : n ≤ 1000000) (hf : ∀ i : Nat, Fits (xs[i]?.getD 0)) :
    Calls Tryz.prog 44 #[.slice A ((2 * n : Nat)) c] w fun e w' => ∃ A1 c1, e = .returned (.slice A1 n c1) ∧ StAt w' A1 n (prs xs n) ∧ Below w.heap.size w w' := by
  have HX := Lib.hid h
  have HFT := Lib.hid hf
  obtain ⟨ii, hii, hz0, hz1, hz2⟩ := info_parts info_step
  have HI := Lib.hid hii
  have HZ0 := Lib.hid hz0
  have HZ1 := Lib.hid hz1
  have HZ2 := Lib.hid hz2
  generalize hN : 2 * n = N at *
  have HN := Lib.hid hN
  clear h hf hii hz0 hz1 hz2 hN
  go_enter Tryz.func44, Tryz.ntmps44
  go_wp2_with fail
  go_loopw [3, 4] (fun th t wr => ∃ (i k : Nat) (Ah : Option Addr) (ch : Nat), i ≤ n ∧ t = .int .i64 (k : Int) ∧ th = .slice Ah i ch ∧ Hid (k = 2 * i) ∧ Hid (Below w.heap.size w wr ∧ Own w.heap.size 74 2 wr Ah i ch (stCells (prs xs i)))) (fun _ t _ => N + 2 - (intOf t).toNat)
  case atStart => exact ⟨0, 0, none, 0, Nat.zero_le _, rfl, rfl, rfl, Below.refl _ _, Own.nil _ _ _ _⟩
  case round =>
    obtain ⟨i, k, Ah, ch, hi, rfl, rfl, hK, hR⟩ := hrel
    have hki := hK.out
    have hN := HN.out
    have e0 : IntKind.i64.wrap ((k : Int) + 1) = (k : Int) + 1 := IntWalk.i64_in _ (by omega)
    have e1 : IntKind.i64.wrap ((k : Int) + 2) = (k : Int) + 2 := IntWalk.i64_in _ (by omega)
    by_cases hlt : i < n
    · obtain ⟨hB, hO⟩ := hR.out
      obtain ⟨g, o, rfl, hb, hc⟩ := HX.out.2 (by omega)
      have hc0 := hc k (by omega)
      have hc1 := hc (k + 1) (by omega)
      have hsn : prs xs (i + 1) = prs xs i ++ [(xs[k]?.getD 0, xs[k + 1]?.getD 0)] := by rw [hki]; rfl
      have hlt1 : ((k : Int) + 1 < (N : Int)) := by omega
      have hlt2 : ((k : Int) < (N : Int)) := by omega
      have hlt3 : ((0 : Int) ≤ (k : Int)) := by omega
      have hlt4 : ((0 : Int) ≤ (k : Int) + 1) := by omega
      have d1 : decide ((k : Int) + 1 < (N : Int)) = true := decide_eq_true hlt1
      have tn2 : ((k : Int) + 1).toNat = k + 1 := by omega
      generalize xs[k]?.getD 0 = a at *
      generalize xs[k + 1]?.getD 0 = b at *
      have hS : ∀ w', Below w.heap.size w w' → (w'.cell? ⟨g, o + k, none⟩ = some (.int .i64 a) ∧ w'.cell? ⟨g, o + (k + 1), none⟩ = some (.int .i64 b)) ∧ Below w.heap.size w w' := fun w' hk => ⟨⟨(hk.cell (p := ⟨g, _, none⟩) hb).trans hc0, (hk.cell (p := ⟨g, _, none⟩) hb).trans hc1⟩, hk⟩
      have HS := Lib.hid hS
      have HSN := Lib.hid hsn
      have HNK := Lib.hid (show N = 2 * n ∧ k = 2 * i from ⟨hN.symm, hki⟩)
      have q0 := hB
      have k1 := (Kp.refl wr).alloc (.cells #[.int .i64 a, .int .i64 b] 74)
      have q1 : Below w.heap.size w (wr.alloc (.cells #[.int .i64 a, .int .i64 b] 74)) := hB.trans (Below.mono k1 hB.size)
      have o1 := hO.keep k1
      have m1 := Blk.new wr 74 #[.int .i64 a, .int .i64 b]
      have hin : i ≤ 1000000 := by omega
      clear hsn hc hc0 hc1 hR hN hki hK hS
      go_wp2_with fail
      go_region_held3 (fun w' => (w'.cell? ⟨g, o + k, none⟩ = some (.int .i64 a) ∧ w'.cell? ⟨g, o + (k + 1), none⟩ = some (.int .i64 b)) ∧ Below w.heap.size w w')
        (first | exact HS.out _ g1 | exact HS.out _ q0.drew | exact HS.out _ q1.drew)
        (first
          | (refine step_append_my (base := w.heap.size) (e := 74) (size := 2) (bytes := 16) (by rfl) (.tmp 12) (.tmp 23) 29 rfl Tryz.underlying29 HI.out HZ0.out HZ1.out HZ2.out rfl (by decide) (xs := stCells (prs xs i)) (news := [.int .i64 a, .int .i64 b]) rfl (by exact o1) rfl (by exact Blk.src m1 rfl (stCells_one [(a, b)])) (by simp only [maxLen]; omega) (by omega) (Below.size (w := w) (B := w.heap.size) (by exact q1.drew)) ?_
             intro B1 cb1 w1 hO1 hb1 hk1
             have g1 : Below w.heap.size w w1 := Below.trans (by exact q1.drew) hb1
             clear hb1 hk1))
      have hfin : Below w.heap.size w w1 ∧ Own w.heap.size 74 2 w1 B1 (i + 1) cb1 (stCells (prs xs (i + 1))) := by
        refine ⟨g1, ?_⟩
        rw [HSN.out, stCells_append]
        exact hO1
      have HF := Lib.hid hfin
      clear hfin g1 hO1
      go_wp2
      go_roundw
      case rel => exact ⟨i + 1, k + 2, B1, cb1, by omega, by go_num, rfl, (by have := HNK.out; omega : k + 2 = 2 * (i + 1)), HF.out⟩
      case measure =>
        have := HNK.out
        simp [intOf]
        omega
    · obtain rfl : i = n := by omega
      have d1 : decide ((k : Int) + 1 < (N : Int)) = false := decide_eq_false (by omega)
      have hfin : StAt wr Ah i (prs xs i) ∧ Below w.heap.size w wr := ⟨hR.out.2.steps (prs_fits HFT.out _), hR.out.1⟩
      have HF := Lib.hid hfin
      clear hfin hR hN hki
      go_wp2
      go_ret
      exact ⟨Ah, ch, rfl, HF.out⟩

end Go.Proofs.YtnjpojpfiijlfaaGreat

namespace Go.Proofs.YtnjpojpfiijlfaaGreat
set_option linter.unusedVariables false
set_option linter.unusedSimpArgs false
open Go.RowKit
open Wd

/-- A level in memory: price, quantity, where its parts lie and their capacity. -/
abbrev Ent := Int × Int × Option Addr × Nat
def eCells (n : Nat) (es : List Ent) : List Value := es.flatMap fun e => [.int .i64 e.1, .int .i64 e.2.1, .slice e.2.2.1 n e.2.2.2]
theorem eCells_append (n : Nat) (a b : List Ent) : eCells n (a ++ b) = eCells n a ++ eCells n b := by simp [eCells]
theorem eCells_len (n : Nat) (l : List Ent) : (eCells n l).length = l.length * 3 := by
  induction l with
  | nil => rfl
  | cons s l ih =>
    have : eCells n (s :: l) = [.int .i64 s.1, .int .i64 s.2.1, .slice s.2.2.1 n s.2.2.2] ++ eCells n l := by simp [eCells]
    rw [this, List.length_append, ih]
    simp
    omega
def Ent0 : Ent := (0, 0, none, 0)
theorem eCells_get (n : Nat) : ∀ (l : List Ent) (j : Nat), j < l.length → (eCells n l)[j * 3]? = some (.int .i64 (l[j]?.getD Ent0).1) ∧ (eCells n l)[j * 3 + 1]? = some (.int .i64 (l[j]?.getD Ent0).2.1) ∧ (eCells n l)[j * 3 + 2]? = some (.slice (l[j]?.getD Ent0).2.2.1 n (l[j]?.getD Ent0).2.2.2)
  | [], j, h => absurd h (by simp)
  | s :: l, 0, _ => by simp [eCells]
  | s :: l, j + 1, h => by
    have e : eCells n (s :: l) = .int .i64 s.1 :: .int .i64 s.2.1 :: .slice s.2.2.1 n s.2.2.2 :: eCells n l := by simp [eCells]
    have ih := eCells_get n l j (by simpa using h)
    rw [e, show (j + 1) * 3 = j * 3 + 1 + 1 + 1 by omega, show j * 3 + 1 + 1 + 1 + 1 = (j * 3 + 1) + 1 + 1 + 1 by omega, show j * 3 + 1 + 1 + 1 + 2 = (j * 3 + 2) + 1 + 1 + 1 by omega]
    simp only [List.getElem?_cons_succ]
    exact ih
theorem eCells_one (n : Nat) (l : List Ent) : ∀ u ∈ eCells n l, u.oneCell' = true := by
  intro u hu
  obtain ⟨s, _, h⟩ := List.mem_flatMap.1 hu
  simp at h
  rcases h with rfl | rfl | rfl <;> rfl
theorem Own.low {base base' : Nat} {e : TypeId} {size : Nat} {w : World} {A : Option Addr} {n c : Nat} {xs : List Value} (h : Own base e size w A n c xs) (hb : base' ≤ base) : Own base' e size w A n c xs := by
  refine ⟨h.1, ?_⟩
  rcases h.2 with h2 | ⟨g, cap, cur, h2, h3, h4⟩
  · exact Or.inl h2
  · exact Or.inr ⟨g, cap, cur, h2, Nat.le_trans hb h3, h4⟩
/-- The entries stand for the first i levels, their parts in rows of the call's own. -/
def EntsO (base n : Nat) (lv : List St.Lv) (w : World) (i : Nat) (es : List Ent) : Prop :=
  es.length = i ∧ ∀ j, j < i → (es[j]?.getD Ent0).1 = (lv[j]?.getD Lv0).1 ∧ (es[j]?.getD Ent0).2.1 = (lv[j]?.getD Lv0).2.1 ∧ Own base 2 1 w (es[j]?.getD Ent0).2.2.1 n (es[j]?.getD Ent0).2.2.2 ((lv[j]?.getD Lv0).2.2.map (Value.int .i64))
theorem Own.levels {base : Nat} {e : TypeId} {w : World} {A : Option Addr} {m n c : Nat} {es : List Ent} {lv : List St.Lv} (h : Own base e 3 w A m c (eCells n es)) (hl : lv.length = m) (he : EntsO base n lv w m es) : LvAt w A m n lv := by
  refine ⟨hl, fun hn => ?_⟩
  have hel := he.1
  have hcl := eCells_len n es
  obtain ⟨g, cap, hv, hb, hlt⟩ := World.ownsRow.form h (by omega)
  simp at hv
  obtain ⟨rfl, rfl⟩ := hv
  refine ⟨g, 0, rfl, hlt, fun j hj => ?_⟩
  obtain ⟨g1, g2, g3⟩ := eCells_get n es j (by omega)
  obtain ⟨e1, e2, e3⟩ := he.2 j hj
  rw [Nat.zero_add, World.ownsRow.cellAt h (j * 3) (by omega), World.ownsRow.cellAt h (j * 3 + 1) (by omega), World.ownsRow.cellAt h (j * 3 + 2) (by omega), g1, g2, g3, e1, e2]
  exact ⟨_, _, ⟨rfl, rfl, rfl⟩, e3.ints⟩
theorem EntsO.below {base n : Nat} {lv : List St.Lv} {w w' : World} {i : Nat} {es : List Ent} (h : EntsO base n lv w i es) (hb : Below w.heap.size w w') : EntsO base n lv w' i es :=
  ⟨h.1, fun j hj => ⟨(h.2 j hj).1, (h.2 j hj).2.1, (h.2 j hj).2.2.keep hb⟩⟩
theorem EntsO.far {base base' n m d : Nat} {lv : List St.Lv} {w w' : World} {i : Nat} {es : List Ent} {B : Option Addr} {e' : TypeId} {size' : Nat} {ys : List Value} (h : EntsO base n lv w i es) (h' : Own base' e' size' w B m d ys) (hne : 2 ≠ e') (hk : Kept w w' B) : EntsO base n lv w' i es :=
  ⟨h.1, fun j hj => ⟨(h.2 j hj).1, (h.2 j hj).2.1, (h.2 j hj).2.2.far h' hne hk⟩⟩
theorem EntsO.snoc {base n : Nat} {lv : List St.Lv} {w : World} {i : Nat} {es : List Ent} {x : Ent} (h : EntsO base n lv w i es) (h1 : x.1 = (lv[i]?.getD Lv0).1) (h2 : x.2.1 = (lv[i]?.getD Lv0).2.1) (h3 : Own base 2 1 w x.2.2.1 n x.2.2.2 ((lv[i]?.getD Lv0).2.2.map (Value.int .i64))) : EntsO base n lv w (i + 1) (es ++ [x]) := by
  have hl := h.1
  refine ⟨by simp [hl], fun j hj => ?_⟩
  by_cases hji : j < i
  · rw [List.getElem?_append_left (by omega)]
    exact h.2 j hji
  · obtain rfl : j = i := by omega
    rw [List.getElem?_append_right (by omega), hl, Nat.sub_self]
    exact ⟨h1, h2, h3⟩
theorem info_rlevel : (Tryz.prog.info? 118).map (fun i => (i.zero, i.size, i.bytes)) = some (some (.agg #[.int .i64 0, .int .i64 0, .slice none 0 0]), 3, 40) := by kernel_rfl

set_option maxRecDepth 100000 in
set_option maxHeartbeats 4000000 in
theorem told_any (A : Option Addr) (m n c : Nat) (lv : List St.Lv) (w : World) (h : LvAt w A m n lv) (hm : m ≤ 1000000) (hn : n ≤ 1000000) :
    Calls Tryz.prog 27 #[.slice A m c] w fun e w' => ∃ A1 c1, e = .returned (.slice A1 m c1) ∧ LvAt w' A1 m n lv ∧ Below w.heap.size w w' := by
  have HX := Lib.hid h
  obtain ⟨ii, hii, hz0, hz1, hz2⟩ := info_parts info_rlevel
  have HI := Lib.hid hii
  have HZ0 := Lib.hid hz0
  have HZ1 := Lib.hid hz1
  have HZ2 := Lib.hid hz2
  obtain ⟨ji, hji, jz0, jz1, jz2⟩ := info_parts info_int64
  have JI := Lib.hid hji
  have JZ0 := Lib.hid jz0
  have JZ1 := Lib.hid jz1
  have JZ2 := Lib.hid jz2
  clear h hii hz0 hz1 hz2 hji jz0 jz1 jz2
  go_enter Tryz.func27, Tryz.ntmps27
  go_wp2_with fail
  go_loopw [3, 4] (fun th t wr => ∃ (i : Nat) (Ah : Option Addr) (ch : Nat) (es : List Ent), i ≤ m ∧ t = .int .i64 (i : Int) ∧ th = .slice Ah i ch ∧ Hid (Below w.heap.size w wr ∧ Own w.heap.size 118 3 wr Ah i ch (eCells n es) ∧ EntsO w.heap.size n lv wr i es)) (fun _ t _ => m - (intOf t).toNat)
  case atStart => exact ⟨0, none, 0, [], Nat.zero_le _, rfl, rfl, Below.refl _ _, Own.nil _ _ _ _, rfl, fun j hj => absurd hj (by omega)⟩
  case round =>
    obtain ⟨i, Ah, ch, es, hi, rfl, rfl, hR⟩ := hrel
    by_cases hlt : i < m
    · obtain ⟨hB, hO, hE⟩ := hR.out
      obtain ⟨b, o, rfl, hb, hc⟩ := HX.out.2 (by omega)
      obtain ⟨A', c', ⟨e0, e1, e2⟩, hp⟩ := hc i hlt
      have i1 : (0 : Int) ≤ (i : Int) := by omega
      have i2 : (i : Int) < (m : Int) := by omega
      have hxe : lv[i]?.getD Lv0 = ((lv[i]?.getD Lv0).1, (lv[i]?.getD Lv0).2.1, (lv[i]?.getD Lv0).2.2) := rfl
      generalize (lv[i]?.getD Lv0).1 = pz at *
      generalize (lv[i]?.getD Lv0).2.1 = qz at *
      generalize (lv[i]?.getD Lv0).2.2 = xs at *
      have HXE := Lib.hid hxe
      have hS : ∀ w', Below w.heap.size w w' → (w'.cell? ⟨b, o + i * 3, none⟩ = some (.int .i64 pz) ∧ w'.cell? ⟨b, o + i * 3 + 1, none⟩ = some (.int .i64 qz) ∧ w'.cell? ⟨b, o + i * 3 + 2, none⟩ = some (.slice A' n c')) ∧ Below w.heap.size w w' := fun w' hk => ⟨⟨(hk.cell (p := ⟨b, _, none⟩) hb).trans e0, (hk.cell (p := ⟨b, _, none⟩) hb).trans e1, (hk.cell (p := ⟨b, _, none⟩) hb).trans e2⟩, hk⟩
      have HS := Lib.hid hS
      have q0 := hB
      have k0 := (Kp.refl wr).alloc (.cells #[] 2)
      have q1 : Below w.heap.size w (wr.alloc (.cells #[] 2)) := hB.trans (Below.mono k0 hB.size)
      have o1 : Own wr.heap.size 2 1 (wr.alloc (.cells #[] 2)) (some ⟨wr.heap.size, 0, none⟩) 0 0 [] := Own.made wr (Nat.le_refl _)
      have HSR := Lib.hid (fun W (hW : Below w.heap.size w W) => (hp.below hW).src)
      have HRR := Lib.hid (And.intro hO hE)
      have him : i ≤ 1000000 := by omega
      clear hc hR hS hxe e0 e1 e2 hp hO hE
      go_wp2_with fail
      go_region_held3 (fun w' => (w'.cell? ⟨b, o + i * 3, none⟩ = some (.int .i64 pz) ∧ w'.cell? ⟨b, o + i * 3 + 1, none⟩ = some (.int .i64 qz) ∧ w'.cell? ⟨b, o + i * 3 + 2, none⟩ = some (.slice A' n c')) ∧ Below w.heap.size w w')
        (first | exact HS.out _ g2 | exact HS.out _ g3 | exact HS.out _ g1 | exact HS.out _ q0.drew | exact HS.out _ q1.drew)
        (first
          | (refine step_append_my (base := wr.heap.size) (e := 2) (size := 1) (bytes := 8) (by rfl) (.tmp 22) (.tmp 27) 62 rfl Tryz.underlying62 JI.out JZ0.out JZ1.out JZ2.out rfl (by decide) (xs := []) (news := xs.map (Value.int .i64)) rfl (by exact o1) rfl (HSR.out _ (by exact q1.drew)) (by simp only [maxLen]; omega) (by omega) (Below.size (w := wr) (B := wr.heap.size) (by exact k0.drew)) ?_
             intro B1 cb1 w1 hO1 hb1 hk1
             have k1 : Kp wr w1 := Below.trans (by exact k0.drew) hb1
             have g1 : Below w.heap.size w w1 := q0.trans (Below.mono k1 q0.size)
             simp only [Nat.zero_add, List.nil_append] at hO1 ⊢
             have a2 : Kp w1 (w1.alloc (.cells #[.int .i64 pz, .int .i64 qz, .slice B1 n cb1] 118)) := (Kp.refl w1).alloc _
             have g2 : Below w.heap.size w (w1.alloc (.cells #[.int .i64 pz, .int .i64 qz, .slice B1 n cb1] 118)) := g1.trans (Below.mono a2 g1.size)
             have o2 := (HRR.out.1.keep k1).keep a2
             have m2 := Blk.new w1 118 #[.int .i64 pz, .int .i64 qz, .slice B1 n cb1]
             clear hb1 hk1)
          | (refine step_append_my (base := w.heap.size) (e := 118) (size := 3) (bytes := 40) (by rfl) (.tmp 11) (.tmp 30) 25 rfl Tryz.underlying25 HI.out HZ0.out HZ1.out HZ2.out rfl (by decide) (xs := eCells n es) (news := [.int .i64 pz, .int .i64 qz, .slice B1 n cb1]) rfl (by exact o2) rfl (by exact Blk.src m2 rfl (eCells_one n [(pz, qz, B1, cb1)])) (by simp only [maxLen]; omega) (by omega) (Below.size (w := w) (B := w.heap.size) (by exact g2)) ?_
             intro B2 cb2 w2 hO2 hb2 hk2
             have g3 : Below w.heap.size w w2 := Below.trans (by exact g2) hb2
             have hk2' : Kept (w1.alloc (.cells #[.int .i64 pz, .int .i64 qz, .slice B1 n cb1] 118)) w2 Ah := hk2
             clear hb2 hk2))
      have hfin : Below w.heap.size w w2 ∧ Own w.heap.size 118 3 w2 B2 (i + 1) cb2 (eCells n (es ++ [(pz, qz, B1, cb1)])) ∧ EntsO w.heap.size n lv w2 (i + 1) (es ++ [(pz, qz, B1, cb1)]) := by
        refine ⟨g3, ?_, ?_⟩
        · rw [eCells_append]
          exact hO2
        · have he1 := (HRR.out.2.below k1).snoc (x := (pz, qz, B1, cb1)) (by rw [HXE.out]) (by rw [HXE.out]) (by rw [HXE.out]; exact hO1.low q0.size)
          exact (he1.below a2).far o2 (by decide) hk2'
      have HF := Lib.hid hfin
      clear hfin g3 hO2 hk2' o2 m2 g2 a2 hO1 k1 g1
      go_wp2
      go_roundw
      case rel => exact ⟨i + 1, B2, cb2, _, by omega, by go_num, rfl, HF.out⟩
      case measure => simp [intOf]; omega
    · obtain rfl : i = m := by omega
      obtain ⟨hB, hO, hE⟩ := hR.out
      have HF := Lib.hid (show LvAt wr Ah i n lv ∧ Below w.heap.size w wr from ⟨hO.levels HX.out.1 hE, hB⟩)
      clear hR hB hO hE
      go_wp2
      go_ret
      exact ⟨Ah, ch, rfl, HF.out⟩

end Go.Proofs.YtnjpojpfiijlfaaGreat

namespace Go.Proofs.YtnjpojpfiijlfaaGreat
set_option linter.unusedVariables false
set_option linter.unusedSimpArgs false
open Go.RowKit
open Wd

set_option maxRecDepth 100000 in
set_option maxHeartbeats 4000000 in
theorem same24_yes (A B : Option Addr) (m n c d : Nat) (lv : List St.Lv) (w : World) (h : LvAt w A m n lv) (h' : LvAt w B m n lv) (hm : m ≤ 1000000) (hn : n ≤ 1000000) :
    Calls Tryz.prog 26 #[.slice A m c, .slice B m d] w fun e w' => e = .returned (.bool true) ∧ Below w.heap.size w w' := by
  have HX := Lib.hid h
  have HY := Lib.hid h'
  have hne : ((m : Int) != (m : Int)) = false := by simp
  have hne2 : ((n : Int) != (n : Int)) = false := by simp
  clear h h'
  go_enter Tryz.func26, Tryz.ntmps26
  go_wp2_with fail
  go_loopw [5] (fun t wr => ∃ k : Nat, k ≤ m ∧ t = .int .i64 k ∧ Hid (Below w.heap.size w wr)) (fun t _ => m - (intOf t).toNat)
  case atStart => exact ⟨0, Nat.zero_le _, rfl, Below.refl _ _⟩
  case round =>
    obtain ⟨k, hk, rfl, hB⟩ := hrel
    by_cases hlt : k < m
    · obtain ⟨b, o, rfl, hb, hc⟩ := HX.out.2 (by omega)
      obtain ⟨b', o', rfl, hb', hc'⟩ := HY.out.2 (by omega)
      obtain ⟨A1, c1, ⟨e0, e1, e2⟩, hp⟩ := hc k hlt
      obtain ⟨B1, d1, ⟨f0, f1, f2⟩, hp'⟩ := hc' k hlt
      have hki1 : (0 : Int) ≤ (k : Int) := by omega
      have hki2 : (k : Int) < (m : Int) := by omega
      generalize (lv[k]?.getD Lv0).1 = pz at *
      generalize (lv[k]?.getD Lv0).2.1 = qz at *
      generalize (lv[k]?.getD Lv0).2.2 = xs at *
      have hcl : ∀ w', Below w.heap.size w w' → (w'.cell? ⟨b, o + k * 3, none⟩ = some (.int .i64 pz) ∧ w'.cell? ⟨b, o + k * 3 + 1, none⟩ = some (.int .i64 qz) ∧ w'.cell? ⟨b, o + k * 3 + 2, none⟩ = some (.slice A1 n c1)) ∧ w'.cell? ⟨b', o' + k * 3, none⟩ = some (.int .i64 pz) ∧ w'.cell? ⟨b', o' + k * 3 + 1, none⟩ = some (.int .i64 qz) ∧ w'.cell? ⟨b', o' + k * 3 + 2, none⟩ = some (.slice B1 n d1) := fun w' hk =>
        ⟨⟨(hk.cell (p := ⟨b, _, none⟩) hb).trans e0, (hk.cell (p := ⟨b, _, none⟩) hb).trans e1, (hk.cell (p := ⟨b, _, none⟩) hb).trans e2⟩, (hk.cell (p := ⟨b', _, none⟩) hb').trans f0, (hk.cell (p := ⟨b', _, none⟩) hb').trans f1, (hk.cell (p := ⟨b', _, none⟩) hb').trans f2⟩
      obtain ⟨⟨u0, u1, u2⟩, v0, v1, v2⟩ := hcl wr hB.out
      have HCL := Lib.hid hcl
      have HP := Lib.hid hp
      have HP' := Lib.hid hp'
      have n1 : (pz != pz) = false := by simp
      have n2 : (qz != qz) = false := by simp
      have HBD := Lib.hid (fun q => below_drewN hB.out q)
      clear hc hc' hp hp' e0 e1 e2 f0 f1 f2 hcl hB
      go_wp2_with fail
      go_quiet (fail)
      go_wp2_with fail
      go_loopw [6] (fun t wr2 => ∃ j : Nat, j ≤ n ∧ t = .int .i64 j ∧ Hid (Below w.heap.size w wr2)) (fun t _ => n - (intOf t).toNat)
      case atStart => exact ⟨0, Nat.zero_le _, rfl, HBD.out _⟩
      case round =>
        clear u0 u1 u2 v0 v1 v2 HBD
        rename_i wr2
        obtain ⟨j, hj, rfl, hB⟩ := hrel
        obtain ⟨⟨u0, u1, u2⟩, v0, v1, v2⟩ := HCL.out _ hB.out
        by_cases hjl : j < n
        · obtain ⟨g, p, rfl, hg, hx⟩ := HP.out.2 (by omega)
          obtain ⟨g', p', rfl, hg', hx'⟩ := HP'.out.2 (by omega)
          have x1 := (hB.out.cell (p := ⟨g, p + j, none⟩) hg).trans (hx j hjl)
          have x2 := (hB.out.cell (p := ⟨g', p' + j, none⟩) hg').trans (hx' j hjl)
          generalize xs[j]?.getD 0 = x at *
          have n3 : (x != x) = false := by simp
          have hj1 : (0 : Int) ≤ (j : Int) := by omega
          have hj2 : (j : Int) < (n : Int) := by omega
          have HBD := Lib.hid (fun q => below_drewN hB.out q)
          clear hx hx' hB
          go_wp2_with fail
          go_quiet (fail)
          go_wp2_with fail
          go_roundw
          case rel => exact ⟨j + 1, by omega, by go_num, HBD.out _⟩
          case measure => simp [intOf]; omega
        · obtain rfl : j = n := by omega
          have HBD := Lib.hid hB.out
          clear hB
          go_wp2_with fail
          go_roundw
          case rel => exact ⟨k + 1, by omega, by go_num, HBD.out⟩
          case measure => simp [intOf]; omega
    · obtain rfl : k = m := by omega
      go_wp2
      go_ret
      exact ⟨rfl, hB.out⟩

end Go.Proofs.YtnjpojpfiijlfaaGreat
