/-
The references of layers 1 and 2: Int, Same, Is. The references of layers 2 and 23: Is, Rows. append onto rows of the call's own, with the block of the result. A row of rationals that is appended to. No statement of the seat is proved here; no conditions beyond those of each theorem.
-/
import Derived.Test.YtodkhjihkkmplaaGreatLPS
import Derived.Test.YtodkhjihkkmplaaGreatLPQ
import Derived.Maps.AppendAt
namespace Go.Proofs.YtodkhjihkkmplaaGreat
set_option linter.unusedVariables false
set_option linter.unusedSimpArgs false
open Go.RowKit
open Wd

set_option maxHeartbeats 1000000 in
theorem rint_any (z : Int) (w : World) (h1 : -9223372036854775808 ≤ z) (h2 : z ≤ 9223372036854775807) :
  Calls Tryz.prog 21 #[.int .i64 z] w (RetQ w (z : Rat)) := by
 have T := Lib.hid (fun W => rfrom_any z W h1 h2)
 have en : ((z : Int) : Rat).num = z := Rat.num_intCast z
 have ed : ((z : Int) : Rat).den = 1 := Rat.den_intCast z
 rw [← en] at T
 rw [en] at T
 generalize ((z : Int) : Rat) = q at *
 have ED := Lib.hid ed
 have EN := Lib.hid en
 clear ed en h1 h2
 go_enter Tryz.func21, Tryz.ntmps21
 go_wp2_with fail
 obtain ⟨hB0, hBW, hsz⟩ := pre1 w 31 #[.bool false, .slice none 0 0, .bool false, .slice none 0 0]
 generalize w.alloc (.cells #[.bool false, .slice none 0 0, .bool false, .slice none 0 0] 31) = W at *
 have HSZ := Lib.hid hsz
 clear hsz
 refine (T.out W).mono ?_
 rw [← EN.out]
 rintro e w3 ⟨A3, k3, c3, rfl, hk3, hW3, hF3, hb3⟩
 have hr3 := (RS4.start hB0).call hb3
 obtain ⟨_, _, _, _, c0, c1, c2, c4, f0, f1, f2, f3⟩ := hr3.four
 have hW4 : Wat w3 none 0 (denW q.den) := by rw [ED.out]; exact Wat.nil
 have hF4 : Fresh W.heap.size w3 none 0 := Fresh.nil
 have hfin := retQ_close (c' := 0) hBW (Nat.le_refl _) (by have := HSZ.out; omega) hr3 hk3 (Nat.le_refl 0) hW3 hW4 hF3 hF4
 obtain ⟨d0, d1, d2, d3, -, -, -, -⟩ := (hr3.done (.bool (decide (q.num < 0))) (.slice A3 k3 c3) (.bool false) (.slice none 0 0)).four
 have HF := Lib.hid hfin
 clear hfin hB0 hr3 hW3 hF3 hW4 hF4 hb3
 go_wp2
 refine bodyPost_ret (v := .agg #[.bool (decide (q.num < 0)), .slice A3 k3 c3, .bool false, .slice none 0 0]) ?_ rfl HF.out
 simp [results, Tryz.results21, go_sem, d0, d1, d2, d3]


set_option maxRecDepth 100000 in
set_option maxHeartbeats 1000000 in
theorem rsame_yes (neg : Bool) (A A' : Option Addr) (n c c' : Nat) (l : List Nat) (w : World) (h : Wat w A n l) (h' : Wat w A' n l) (hm : n ≤ 1000000) :
  Calls Tryz.prog 47 #[.agg #[.bool neg, .slice A n c], .agg #[.bool neg, .slice A' n c']] w fun e w' => e = .returned (.bool true) ∧ Below w.heap.size w w' := by
 have HX := Lib.hid h
 have HY := Lib.hid h'
 have hne : ((n : Int) != (n : Int)) = false := by simp
 have hne2 : (!neg == neg) = false := by cases neg <;> rfl
 have hne3 : (neg != neg) = false := by cases neg <;> rfl
 clear h h'
 go_enter Tryz.func47, Tryz.ntmps47
 go_wp2_with fail
 obtain ⟨hB0, hB1, hBW, hsz⟩ := pre2 w 29 #[.bool neg, .slice A n c] 29 #[.bool neg, .slice A' n c']
 generalize (w.alloc (.cells #[.bool neg, .slice A n c] 29)).alloc (.cells #[.bool neg, .slice A' n c'] 29) = W at *
 have HSZ := Lib.hid hsz
 clear hsz
 have HB0 := Lib.hid hB0
 have HB1 := Lib.hid hB1
 have HBW := Lib.hid hBW
 clear hB0 hB1 hBW
 go_loopw [5] (fun t wr => ∃ k : Nat, k ≤ n ∧ t = .int .i64 k ∧ Hid (Below W.heap.size W wr)) (fun t _ => n - (intOf t).toNat)
 case atStart => exact ⟨0, Nat.zero_le _, rfl, Below.refl _ _⟩
 case round =>
  obtain ⟨k, hk, rfl, hB⟩ := hrel
  obtain ⟨a0, a1, -, -⟩ := (HB0.out.below hB.out HB0.out.lt).two
  obtain ⟨b0, b1, -, -⟩ := (HB1.out.below hB.out HB1.out.lt).two
  by_cases hlt : k < n
  ·obtain ⟨b, o, rfl, hb, hc⟩ := HX.out.2.2 (by omega)
   obtain ⟨b', o', rfl, hb', hc'⟩ := HY.out.2.2 (by omega)
   have c1 := ((HBW.out.trans (hB.out.mono HBW.out.size)).cell (p := ⟨b, o + k, none⟩) hb).trans (hc k hlt)
   have c2 := ((HBW.out.trans (hB.out.mono HBW.out.size)).cell (p := ⟨b', o' + k, none⟩) hb').trans (hc' k hlt)
   have hki1 : (0 : Int) ≤ (k : Int) := by omega
   have hki2 : (k : Int) < (n : Int) := by omega
   clear hc hc'
   have HBD := fun q => below_drewN hB.out q
   have HBD := Lib.hid HBD
   generalize ((l[k]?.getD 0 : Nat) : Int) = x at *
   have d1 : (x != x) = false := by simp
   clear hB
   go_wp2
   go_quiet (fail)
   go_wp2
   go_roundw
   case rel => exact ⟨k + 1, by omega, by go_num, HBD.out _⟩
   case measure => simp [intOf]; omega
  ·obtain rfl : k = n := by omega
   have hfin : Below w.heap.size w wr := HBW.out.trans (hB.out.mono HBW.out.size)
   have HF := Lib.hid hfin
   clear hfin
   go_wp2
   go_ret
   exact ⟨rfl, HF.out⟩

end Go.Proofs.YtodkhjihkkmplaaGreat

namespace Go.Proofs.YtodkhjihkkmplaaGreat
set_option linter.unusedVariables false
set_option linter.unusedSimpArgs false
open Go.RowKit
open Wd

set_option maxRecDepth 100000 in
set_option maxHeartbeats 1000000 in
theorem ris_yes (q : Rat) (A B A' B' : Option Addr) (k c k' c' d d' : Nat) (w : World) (h : RQ w q A k c A' k' c') (h' : RQ w q B k d B' k' d') (hk : k ≤ 1000000) (hk' : k' ≤ 1000000) :
  Calls Tryz.prog 14 #[.agg #[.bool (decide (q.num < 0)), .slice A k c, .bool false, .slice A' k' c'], .agg #[.bool (decide (q.num < 0)), .slice B k d, .bool false, .slice B' k' d']] w fun e w' => e = .returned (.bool true) ∧ Below w.heap.size w w' := by
 have T1 := Lib.hid (fun W (hW : Below w.heap.size w W) => rsame_yes (decide (q.num < 0)) A B k c d _ W (h.2.2.1.below hW) (h'.2.2.1.below hW) hk)
 have T2 := Lib.hid (fun W (hW : Below w.heap.size w W) => rsame_yes false A' B' k' c' d' _ W (h.2.2.2.below hW) (h'.2.2.2.below hW) hk')
 generalize decide (q.num < 0) = s at *
 clear h h'
 go_enter Tryz.func14, Tryz.ntmps14
 go_wp2_with fail
 obtain ⟨hB0, hB1, hBW, hsz⟩ := pre2 w 31 #[.bool s, .slice A k c, .bool false, .slice A' k' c'] 31 #[.bool s, .slice B k d, .bool false, .slice B' k' d']
 generalize (w.alloc (.cells #[.bool s, .slice A k c, .bool false, .slice A' k' c'] 31)).alloc (.cells #[.bool s, .slice B k d, .bool false, .slice B' k' d'] 31) = W at *
 have HSZ := Lib.hid hsz
 clear hsz
 refine (T1.out W hBW).mono ?_
 rintro e w1 ⟨rfl, hb1⟩
 have hB0 := hB0.below hb1 hB0.lt
 have hB1 := hB1.below hb1 hB1.lt
 have hb2 := hBW.trans (hb1.mono hBW.size)
 obtain ⟨a0, a1, a2, a3, -, -, -, -⟩ := hB0.four
 obtain ⟨b0, b1, b2, b3, -, -, -, -⟩ := hB1.four
 have hT2 := T2.out w1 hb2
 have HB2 := Lib.hid hb2
 have HT2 := Lib.hid hT2
 clear hb1 hb2 hBW T1 T2 hT2 hB0 hB1
 go_wp2_with fail
 refine HT2.out.mono ?_
 rintro e w2 ⟨rfl, hb3⟩
 have hfin := HB2.out.trans (hb3.mono HB2.out.size)
 have HF := Lib.hid hfin
 clear hfin hb3 HT2
 go_wp2
 go_ret
 exact ⟨rfl, HF.out⟩

/-- A row of canonical rationals, wherever it lies. -/
def QsAt (w : World) (A : Option Addr) (n : Nat) (ps : List Rat) : Prop :=
 ps.length = n ∧ (n ≠ 0 → ∃ b o, A = some ⟨b, o, none⟩ ∧ b < w.heap.size ∧ ∀ j, j < n → ∃ A1 k c A2 k' c',
  w.cell? ⟨b, o + j * 4, none⟩ = some (.bool (decide ((ps[j]?.getD 0).num < 0))) ∧ w.cell? ⟨b, o + j * 4 + 1, none⟩ = some (.slice A1 k c) ∧ w.cell? ⟨b, o + j * 4 + 2, none⟩ = some (.bool false) ∧ w.cell? ⟨b, o + j * 4 + 3, none⟩ = some (.slice A2 k' c') ∧
  RQ w (ps[j]?.getD 0) A1 k c A2 k' c')
theorem QsAt.below {w w' : World} {A : Option Addr} {n : Nat} {ps : List Rat} (h : QsAt w A n ps) (hb : Below w.heap.size w w') : QsAt w' A n ps := by
 refine ⟨h.1, fun h0 => ?_⟩
 obtain ⟨b, o, e, hlt, hc⟩ := h.2 h0
 refine ⟨b, o, e, Nat.lt_of_lt_of_le hlt hb.size, fun j hj => ?_⟩
 obtain ⟨A1, k, c, A2, k', c', g0, g1, g2, g3, g4⟩ := hc j hj
 exact ⟨A1, k, c, A2, k', c', (hb.cell (p := ⟨b, _, none⟩) hlt).trans g0, (hb.cell (p := ⟨b, _, none⟩) hlt).trans g1, (hb.cell (p := ⟨b, _, none⟩) hlt).trans g2, (hb.cell (p := ⟨b, _, none⟩) hlt).trans g3, g4.below hb⟩
theorem QRow.at {w : World} {g n : Nat} {ps : List Rat} (h : QRow w g n ps) : QsAt w (some ⟨g, 0, none⟩) n ps := by
 obtain ⟨h1, cs, h2, h3, h4, h5⟩ := h
 refine ⟨h1, fun h0 => ⟨g, 0, rfl, h2.lt, fun j hj => ?_⟩⟩
 obtain ⟨A, k, c, A', k', c', e0, e1, e2, e3, g1, g2, g3, g4⟩ := h5 j hj
 refine ⟨A, k, c, A', k', c', ?_, ?_, ?_, ?_, g1, g2, g3, g4⟩
 ·rw [Nat.zero_add, h2.cell]; exact e0
 ·rw [Nat.zero_add, h2.cell]; exact e1
 ·rw [Nat.zero_add, h2.cell]; exact e2
 ·rw [Nat.zero_add, h2.cell]; exact e3
theorem Wat.len {w : World} {A : Option Addr} {n : Nat} {l : List Nat} (h : Wat w A n l) : n = l.length := h.1.symm

set_option maxRecDepth 100000 in
set_option maxHeartbeats 1000000 in
theorem rrows_yes (A B : Option Addr) (n c d : Nat) (ps : List Rat) (w : World) (h : QsAt w A n ps) (h' : QsAt w B n ps) (hn : n ≤ 1000000) (hs : ∀ p ∈ ps, (digs p.num.natAbs).length ≤ 1000000 ∧ (denW p.den).length ≤ 1000000) :
  Calls Tryz.prog 15 #[.slice A n c, .slice B n d] w fun e w' => e = .returned (.bool true) ∧ Below w.heap.size w w' := by
 have HX := Lib.hid h
 have HY := Lib.hid h'
 have HSZ := Lib.hid hs
 have hne : ((n : Int) != (n : Int)) = false := by simp
 clear h h' hs
 go_enter Tryz.func15, Tryz.ntmps15
 go_wp2_with fail
 go_loopw [5] (fun t wr => ∃ k : Nat, k ≤ n ∧ t = .int .i64 k ∧ Hid (Below w.heap.size w wr)) (fun t _ => n - (intOf t).toNat)
 case atStart => exact ⟨0, Nat.zero_le _, rfl, Below.refl _ _⟩
 case round =>
  obtain ⟨k, hk, rfl, hB⟩ := hrel
  by_cases hlt : k < n
  ·obtain ⟨b, o, rfl, hb, hc⟩ := HX.out.2 (by omega)
   obtain ⟨b', o', rfl, hb', hc'⟩ := HY.out.2 (by omega)
   obtain ⟨A1, k1, d1, A2, k2, d2, e0, e1, e2, e3, e4⟩ := hc k hlt
   obtain ⟨B1, k3, d3, B2, k4, d4, f0, f1, f2, f3, f4⟩ := hc' k hlt
   have hp := HSZ.out (ps[k]?.getD 0) (by rw [List.getElem?_eq_getElem (by rw [HX.out.1]; exact hlt)]; exact List.getElem_mem _)
   obtain rfl : k1 = k3 := e4.2.2.1.len.trans f4.2.2.1.len.symm
   obtain rfl : k2 = k4 := e4.2.2.2.len.trans f4.2.2.2.len.symm
   have T := fun W (hW : Kp wr W) => ris_yes _ A1 B1 A2 B2 k1 d1 k2 d2 d3 d4 W ((e4.below hB.out).below hW) ((f4.below hB.out).below hW) (by rw [e4.2.2.1.len]; exact hp.1) (by rw [e4.2.2.2.len]; exact hp.2)
   have HT := Lib.hid T
   have hki1 : (0 : Int) ≤ (k : Int) := by omega
   have hki2 : (k : Int) < (n : Int) := by omega
   have c0 := (hB.out.cell (p := ⟨b, o + k * 4, none⟩) hb).trans e0
   have c1 := (hB.out.cell (p := ⟨b, o + k * 4 + 1, none⟩) hb).trans e1
   have c2 := (hB.out.cell (p := ⟨b, o + k * 4 + 2, none⟩) hb).trans e2
   have c3 := (hB.out.cell (p := ⟨b, o + k * 4 + 3, none⟩) hb).trans e3
   have g0 := (hB.out.cell (p := ⟨b', o' + k * 4, none⟩) hb').trans f0
   have g1 := (hB.out.cell (p := ⟨b', o' + k * 4 + 1, none⟩) hb').trans f1
   have g2 := (hB.out.cell (p := ⟨b', o' + k * 4 + 2, none⟩) hb').trans f2
   have g3 := (hB.out.cell (p := ⟨b', o' + k * 4 + 3, none⟩) hb').trans f3
   generalize decide ((ps[k]?.getD 0).num < 0) = s at *
   have hb1 : b < wr.heap.size := Nat.lt_of_lt_of_le hb hB.out.size
   have hb1' : b' < wr.heap.size := Nat.lt_of_lt_of_le hb' hB.out.size
   have hS : ∀ w', Kp wr w' → (w'.cell? ⟨b, o + k * 4, none⟩ = some (.bool s) ∧ w'.cell? ⟨b, o + k * 4 + 1, none⟩ = some (.slice A1 k1 d1) ∧ w'.cell? ⟨b, o + k * 4 + 2, none⟩ = some (.bool false) ∧ w'.cell? ⟨b, o + k * 4 + 3, none⟩ = some (.slice A2 k2 d2) ∧ w'.cell? ⟨b', o' + k * 4, none⟩ = some (.bool s) ∧ w'.cell? ⟨b', o' + k * 4 + 1, none⟩ = some (.slice B1 k1 d3) ∧ w'.cell? ⟨b', o' + k * 4 + 2, none⟩ = some (.bool false) ∧ w'.cell? ⟨b', o' + k * 4 + 3, none⟩ = some (.slice B2 k2 d4)) ∧ Kp wr w' := fun w' hk => ⟨⟨(hk.cell (p := ⟨b, _, none⟩) hb1).trans c0, (hk.cell (p := ⟨b, _, none⟩) hb1).trans c1, (hk.cell (p := ⟨b, _, none⟩) hb1).trans c2, (hk.cell (p := ⟨b, _, none⟩) hb1).trans c3, (hk.cell (p := ⟨b', _, none⟩) hb1').trans g0, (hk.cell (p := ⟨b', _, none⟩) hb1').trans g1, (hk.cell (p := ⟨b', _, none⟩) hb1').trans g2, (hk.cell (p := ⟨b', _, none⟩) hb1').trans g3⟩, hk⟩
   have HS := Lib.hid hS
   have k0 := Kp.refl wr
   clear hc hc' T e0 e1 e2 e3 e4 f0 f1 f2 f3 f4 hp hS c0 c1 c2 c3 g0 g1 g2 g3
   go_wp2_with fail
   go_region_held3 (fun w' => (w'.cell? ⟨b, o + k * 4, none⟩ = some (.bool s) ∧ w'.cell? ⟨b, o + k * 4 + 1, none⟩ = some (.slice A1 k1 d1) ∧ w'.cell? ⟨b, o + k * 4 + 2, none⟩ = some (.bool false) ∧ w'.cell? ⟨b, o + k * 4 + 3, none⟩ = some (.slice A2 k2 d2) ∧ w'.cell? ⟨b', o' + k * 4, none⟩ = some (.bool s) ∧ w'.cell? ⟨b', o' + k * 4 + 1, none⟩ = some (.slice B1 k1 d3) ∧ w'.cell? ⟨b', o' + k * 4 + 2, none⟩ = some (.bool false) ∧ w'.cell? ⟨b', o' + k * 4 + 3, none⟩ = some (.slice B2 k2 d4)) ∧ Kp wr w')
    (first | (with_reducible refine HS.out _ ?_; with_reducible assumption) | (with_reducible refine HS.out _ (Kp.drew ?_); with_reducible assumption) | (with_reducible refine' HS.out _ (Kp.drew (And.right ?_)); rotate_left; with_reducible assumption))
    (first
     | (go_at_call 14; have hk := And.right ‹_ ∧ Kp wr _›; refine (HT.out _ hk).mono ?_; rintro e w2 ⟨rfl, hb3⟩; have hk3 := hk.trans hb3))
   have hfin := hB.out.trans (Below.mono hk3 hB.out.size)
   have HF := Lib.hid hfin
   clear hfin hb3 HT
   go_wp2
   go_roundw
   case rel => exact ⟨k + 1, by omega, by go_num, HF.out⟩
   case measure => simp [intOf]; omega
  ·obtain rfl : k = n := by omega
   go_wp2
   go_ret
   exact ⟨rfl, hB.out⟩

end Go.Proofs.YtodkhjihkkmplaaGreat

namespace Go.Proofs.YtodkhjihkkmplaaGreat
set_option linter.unusedVariables false
set_option linter.unusedSimpArgs false
open Go.RowKit
open Wd





end Go.Proofs.YtodkhjihkkmplaaGreat
namespace Go.Proofs.YtodkhjihkkmplaaGreat
open Go.RowKit
open Wd





/-- A rational in memory: its sign, where numerator and denominator lie. -/
abbrev QEnt := Bool × (Option Addr × Nat × Nat) × (Option Addr × Nat × Nat)







section
variable {B : Option Addr} {ps : List Rat} {w w' : World} {i : Nat} {es : List QEnt}




end
end Go.Proofs.YtodkhjihkkmplaaGreat