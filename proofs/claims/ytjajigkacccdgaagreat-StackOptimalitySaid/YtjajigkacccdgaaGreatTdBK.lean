/-
The statements of layer 24: curve. The reference of layer 1: trim and at. The reference of layer 1: halves. The reference of layer 1: of. No statement of the seat is proved here; no conditions beyond those of each theorem.
-/
import Derived.Test.YtjajigkacccdgaaGreatTdBB
import Derived.Test.YtjajigkacccdgaaGreatTdAY
import Derived.Test.YtjajigkacccdgaaGreatTdAE
import Derived.Laws.EntriesVeiled
namespace Go.Proofs.YtjajigkacccdgaaGreat
set_option linter.unusedVariables false
set_option linter.unusedSimpArgs false
open Go.RowKit
open Wd

def stCells (l : List (Int × Int)) : List Value := l.flatMap fun s => [.int .i64 s.1, .int .i64 s.2]
theorem stCells_append (a b : List (Int × Int)) : stCells (a ++ b) = stCells a ++ stCells b := by simp [stCells]
theorem stCells_len (l : List (Int × Int)) : (stCells l).length = l.length * 2 := by
 induction l with
 | nil => rfl
 | cons s l ih =>
  have : stCells (s :: l) = [.int .i64 s.1, .int .i64 s.2] ++ stCells l := by simp [stCells]
  rw [this, List.length_append, ih]
  simp
  omega
theorem stCells_get : ∀ (l : List (Int × Int)) (j : Nat), j < l.length → (stCells l)[j * 2]? = some (.int .i64 (l[j]?.getD (0, 0)).1) ∧ (stCells l)[j * 2 + 1]? = some (.int .i64 (l[j]?.getD (0, 0)).2)
 | [], j, h => absurd h (by simp)
 | s :: l, 0, _ => by simp [stCells]
 | s :: l, j + 1, h => by
  have e : stCells (s :: l) = .int .i64 s.1 :: .int .i64 s.2 :: stCells l := by simp [stCells]
  have ih := stCells_get l j (by simpa using h)
  rw [e, show (j + 1) * 2 = j * 2 + 1 + 1 by omega, show j * 2 + 1 + 1 + 1 = (j * 2 + 1) + 1 + 1 by omega, List.getElem?_cons_succ, List.getElem?_cons_succ, List.getElem?_cons_succ, List.getElem?_cons_succ, List.getElem?_cons_succ]
  exact ih
theorem stCells_one (l : List (Int × Int)) : ∀ u ∈ stCells l, u.oneCell' = true := by
 intro u hu
 obtain ⟨s, _, h⟩ := List.mem_flatMap.1 hu
 simp at h
 rcases h with rfl | rfl <;> rfl
theorem Own.steps {base : Nat} {e : TypeId} {w : World} {A : Option Addr} {n c : Nat} {l : List (Int × Int)} (h : Own base e 2 w A n c (stCells l)) (hf : ∀ s ∈ l, Fits s.1 ∧ Fits s.2) : StAt w A n l := by
 have hl : l.length = n := by have := h.1; rw [stCells_len] at this; omega
 refine ⟨hl, hf, fun hn => ?_⟩
 obtain ⟨g, cap, hv, hb, hlt⟩ := World.ownsRow.form h (by omega)
 simp at hv
 obtain ⟨rfl, rfl⟩ := hv
 have hcl := stCells_len l
 refine ⟨g, 0, rfl, hlt, fun j hj => ?_⟩
 obtain ⟨g1, g2⟩ := stCells_get l j (by omega)
 rw [Nat.zero_add, World.ownsRow.cellAt h (j * 2) (by omega), World.ownsRow.cellAt h (j * 2 + 1) (by omega)]
 exact ⟨g1, g2⟩
theorem info_step : (Tryz.prog.info? 107).map (fun i => (i.zero, i.size, i.bytes)) = some (some (.agg #[.int .i64 0, .int .i64 0]), 2, 16) := by kernel_rfl
/-- The steps of a list qty, price, qty, price. -/
def prs (xs : List Int) : Nat → List (Int × Int)
 | 0 => []
 | k + 1 => prs xs k ++ [(xs[2 * k]?.getD 0, xs[2 * k + 1]?.getD 0)]

theorem prs_fits {xs : List Int} (h : ∀ i : Nat, Fits (xs[i]?.getD 0)) : ∀ k, ∀ s ∈ prs xs k, Fits s.1 ∧ Fits s.2
 | 0, s, hs => by simp [prs] at hs
 | k + 1, s, hs => by
  rw [prs, List.mem_append] at hs
  rcases hs with hs | hs
  ·exact prs_fits h k s hs
  ·simp at hs
   rw [hs]
   exact ⟨h _, h _⟩

set_option maxRecDepth 100000 in
set_option maxHeartbeats 4000000 in
theorem curve_any (A : Option Addr) (n c : Nat) (xs : List Int) (w : World) (h : IsAt w A (2 * n) xs) (hn : n ≤ 1000000) (hf : ∀ i : Nat, Fits (xs[i]?.getD 0)) :
  Calls Tryz.prog 36 #[.slice A ((2 * n : Nat)) c] w fun e w' => ∃ A1 c1, e = .returned (.slice A1 n c1) ∧ StAt w' A1 n (prs xs n) ∧ Below w.heap.size w w' := by
 have HX := Lib.hid h
 have HFT := Lib.hid hf
 obtain ⟨ii, hii, hz0, hz1, hz2⟩ := info_parts info_step
 have HI := Lib.hid hii
 have HZ0 := Lib.hid hz0
 have HZ1 := Lib.hid hz1
 have HZ2 := Lib.hid hz2
 generalize hN : 2 * n = N at *
 have HN := Lib.hid hN
 clear h hf hii hz0 hz1 hz2 hN
 go_enter Tryz.func36, Tryz.ntmps36
 go_wp2_with fail
 go_loopw [3, 4] (fun th t wr => ∃ (i k : Nat) (Ah : Option Addr) (ch : Nat), i ≤ n ∧ t = .int .i64 (k : Int) ∧ th = .slice Ah i ch ∧ Hid (k = 2 * i) ∧ Hid (Below w.heap.size w wr ∧ Own w.heap.size 107 2 wr Ah i ch (stCells (prs xs i)))) (fun _ t _ => N + 2 - (intOf t).toNat)
 case atStart => exact ⟨0, 0, none, 0, Nat.zero_le _, rfl, rfl, rfl, Below.refl _ _, Own.nil _ _ _ _⟩
 case round =>
  obtain ⟨i, k, Ah, ch, hi, rfl, rfl, hK, hR⟩ := hrel
  have hki := hK.out
  have hN := HN.out
  have e0 : IntKind.i64.wrap ((k : Int) + 1) = (k : Int) + 1 := IntWalk.i64_in _ (by omega)
  have e1 : IntKind.i64.wrap ((k : Int) + 2) = (k : Int) + 2 := IntWalk.i64_in _ (by omega)
  by_cases hlt : i < n
  ·obtain ⟨hB, hO⟩ := hR.out
   obtain ⟨g, o, rfl, hb, hc⟩ := HX.out.2 (by omega)
   have hc0 := hc k (by omega)
   have hc1 := hc (k + 1) (by omega)
   have hsn : prs xs (i + 1) = prs xs i ++ [(xs[k]?.getD 0, xs[k + 1]?.getD 0)] := by rw [hki]; rfl
   have hlt1 : ((k : Int) + 1 < (N : Int)) := by omega
   have hlt2 : ((k : Int) < (N : Int)) := by omega
   have hlt3 : ((0 : Int) ≤ (k : Int)) := by omega
   have hlt4 : ((0 : Int) ≤ (k : Int) + 1) := by omega
   have d1 : decide ((k : Int) + 1 < (N : Int)) = true := decide_eq_true hlt1
   have tn2 : ((k : Int) + 1).toNat = k + 1 := by omega
   generalize xs[k]?.getD 0 = a at *
   generalize xs[k + 1]?.getD 0 = b at *
   have hS : ∀ w', Below w.heap.size w w' → (w'.cell? ⟨g, o + k, none⟩ = some (.int .i64 a) ∧ w'.cell? ⟨g, o + (k + 1), none⟩ = some (.int .i64 b)) ∧ Below w.heap.size w w' := fun w' hk => ⟨⟨(hk.cell (p := ⟨g, _, none⟩) hb).trans hc0, (hk.cell (p := ⟨g, _, none⟩) hb).trans hc1⟩, hk⟩
   have HS := Lib.hid hS
   have HSN := Lib.hid hsn
   have HNK := Lib.hid (show N = 2 * n ∧ k = 2 * i from ⟨hN.symm, hki⟩)
   have q0 := hB
   have k1 := (Kp.refl wr).alloc (.cells #[.int .i64 a, .int .i64 b] 107)
   have q1 : Below w.heap.size w (wr.alloc (.cells #[.int .i64 a, .int .i64 b] 107)) := hB.trans (Below.mono k1 hB.size)
   have o1 := hO.keep k1
   have m1 := Blk.new wr 107 #[.int .i64 a, .int .i64 b]
   have hin : i ≤ 1000000 := by omega
   clear hsn hc hc0 hc1 hR hN hki hK hS
   go_wp2_with fail
   go_region_held3 (fun w' => (w'.cell? ⟨g, o + k, none⟩ = some (.int .i64 a) ∧ w'.cell? ⟨g, o + (k + 1), none⟩ = some (.int .i64 b)) ∧ Below w.heap.size w w')
    (first | exact HS.out _ g1 | exact HS.out _ q0.drew | exact HS.out _ q1.drew)
    (first
     | (refine step_append_my (base := w.heap.size) (e := 107) (size := 2) (bytes := 16) (by rfl) (.tmp 12) (.tmp 23) 29 rfl Tryz.underlying29 HI.out HZ0.out HZ1.out HZ2.out rfl (by decide) (xs := stCells (prs xs i)) (news := [.int .i64 a, .int .i64 b]) rfl (by exact o1) rfl (by exact Blk.src m1 rfl (stCells_one [(a, b)])) (by simp only [maxLen]; omega) (by omega) (Below.size (w := w) (B := w.heap.size) (by exact q1.drew)) ?_
        intro B1 cb1 w1 hO1 hb1 hk1
        have g1 : Below w.heap.size w w1 := Below.trans (by exact q1.drew) hb1
        clear hb1 hk1))
   have hfin : Below w.heap.size w w1 ∧ Own w.heap.size 107 2 w1 B1 (i + 1) cb1 (stCells (prs xs (i + 1))) := by
    refine ⟨g1, ?_⟩
    rw [HSN.out, stCells_append]
    exact hO1
   have HF := Lib.hid hfin
   clear hfin g1 hO1
   go_wp2
   go_roundw
   case rel => exact ⟨i + 1, k + 2, B1, cb1, by omega, by go_num, rfl, (by have := HNK.out; omega : k + 2 = 2 * (i + 1)), HF.out⟩
   case measure =>
    have := HNK.out
    simp [intOf]
    omega
  ·obtain rfl : i = n := by omega
   have d1 : decide ((k : Int) + 1 < (N : Int)) = false := decide_eq_false (by omega)
   have hfin : StAt wr Ah i (prs xs i) ∧ Below w.heap.size w wr := ⟨hR.out.2.steps (prs_fits HFT.out _), hR.out.1⟩
   have HF := Lib.hid hfin
   clear hfin hR hN hki
   go_wp2
   go_ret
   exact ⟨Ah, ch, rfl, HF.out⟩

end Go.Proofs.YtjajigkacccdgaaGreat

namespace Go.Proofs.YtjajigkacccdgaaGreat
set_option linter.unusedVariables false
set_option linter.unusedSimpArgs false
open Go.RowKit
open Wd

/-- How many of the first k digits are left when zeros at the end are dropped. -/
def tl (hs : List Int) : Nat → Nat
 | 0 => 0
 | k + 1 => if hs[k]?.getD 0 = 0 then tl hs k else k + 1
theorem tl_le (hs : List Int) : ∀ k, tl hs k ≤ k
 | 0 => Nat.le_refl _
 | k + 1 => by
  have := tl_le hs k
  rw [tl]
  split <;> omega
theorem IsAt.take {w : World} {A : Option Addr} {n k : Nat} {us : List Int} (h : IsAt w A n us) (hk : k ≤ n) : IsAt w A k (us.take k) := by
 refine ⟨by simp [h.1, hk], fun h0 => ?_⟩
 obtain ⟨b, o, e, hlt, hc⟩ := h.2 (by omega)
 exact ⟨b, o, e, hlt, fun j hj => by rw [List.getElem?_take, if_pos hj]; exact hc j (by omega)⟩
theorem info_int : (Tryz.prog.info? 3).map (fun i => (i.zero, i.size, i.bytes)) = some (some (.int .i64 0), 1, 8) := by kernel_rfl

set_option maxRecDepth 100000 in
set_option maxHeartbeats 4000000 in
theorem rtrim_at (A : Option Addr) (n c : Nat) (hs : List Int) (w : World) (h : IsAt w A n hs) (hnc : n ≤ c) (hn : n ≤ 1000000000000) :
  Calls Tryz.prog 211 #[.slice A n c] w fun e w' => ∃ A1, e = .returned (.slice A1 (tl hs n) c) ∧ IsAt w' A1 (tl hs n) (hs.take (tl hs n)) ∧ w' = w ∧ ∀ b o, A = some ⟨b, o, none⟩ → A1 = some ⟨b, o, none⟩ := by
 have HX := Lib.hid h
 have HE : ∀ k, k ≤ n → ∃ A1, (∀ W, (Instr.sliceAt 199 (.slice A n c) none (some (.int .i64 (k : Int))) none).run Tryz.prog W = .ok (.slice A1 k c) W) ∧ IsAt w A1 k (hs.take k) ∧ ∀ b o, A = some ⟨b, o, none⟩ → A1 = some ⟨b, o, none⟩ := fun k hk => by
  obtain ⟨ii, hii, _⟩ := info_parts info_int
  obtain ⟨A1, h1, h2⟩ := slice_lo (P := Tryz.prog) Tryz.underlying199 hii A n c k (by omega)
  refine ⟨A1, h1, ⟨(h.take hk).1, fun h0 => ?_⟩, h2⟩
  obtain ⟨b, o, e, hh⟩ := (h.take hk).2 h0
  exact ⟨b, o, h2 b o e, hh⟩
 have HSL := Lib.hid HE
 clear h HE
 go_enter Tryz.func211, Tryz.ntmps211
 go_wp2_with fail
 go_loopw [3] (fun t wr => ∃ k : Nat, k ≤ n ∧ t = .int .i64 k ∧ Hid (tl hs n = tl hs k) ∧ Hid (wr = w)) (fun t _ => (intOf t).toNat)
 case atStart => exact ⟨n, Nat.le_refl _, rfl, rfl, by first | exact Lib.hid rfl | exact Lib.hid trivial⟩
 case round =>
  obtain ⟨k, hk, rfl, hR, hW⟩ := hrel
  obtain rfl := hW.out
  by_cases h0 : k = 0
  ·subst h0
   have hr := hR.out
   rw [tl] at hr
   obtain ⟨A1, hsl, hI, hAA⟩ := HSL.out 0 (by omega)
   clear hAA
   have HR := Lib.hid hr
   have HI := Lib.hid hI
   clear hr hI HSL hR
   go_wp2
   go_ret
   rw [HR.out]
   exact ⟨A, rfl, HX.out.take (Nat.zero_le _), rfl, fun b o h => h⟩
  ·obtain ⟨j, rfl⟩ : ∃ j, k = j + 1 := ⟨k - 1, by omega⟩
   obtain ⟨b, o, rfl, hb, hc⟩ := HX.out.2 (by omega)
   have cj := hc j (by omega)
   have hr := hR.out
   rw [tl] at hr
   have d1 : decide ((0 : Int) < (j : Int) + 1) = true := decide_eq_true (by omega)
   have xw : IntKind.i64.wrap ((j : Int) + 1 - 1) = (j : Int) := by rw [show (j : Int) + 1 - 1 = (j : Int) by omega]; exact IntWalk.i64_in _ (by omega)
   have xw2 : IntKind.i64.wrap (j : Int) = (j : Int) := IntWalk.i64_in _ (by omega)
   have j1 : (0 : Int) ≤ (j : Int) := by omega
   have j2 : (j : Int) < (n : Int) := by omega
   obtain ⟨A1, hsl, hI, hAA⟩ := HSL.out (j + 1) (by omega)
   have HAA := Lib.hid hAA
   clear hAA
   generalize hs[j]?.getD 0 = x at *
   clear hc hR
   by_cases hx : x = 0
   ·subst hx
    rw [if_pos rfl] at hr
    have HR := Lib.hid hr
    clear hr hI hsl
    go_wp2
    go_roundw
    case rel => exact ⟨j, by omega, by go_num, HR.out, by first | exact Lib.hid rfl | exact Lib.hid trivial⟩
    case measure => simp [intOf]
   ·rw [if_neg hx] at hr
    have HR := Lib.hid hr
    have HI := Lib.hid hI
    have hxz : (x == 0) = false := by simpa using hx
    have ej : ((j + 1 : Nat) : Int) = (j : Int) + 1 := rfl
    rw [ej] at hsl
    clear hr hI hx
    go_wp2
    go_ret
    rw [HR.out]
    exact ⟨A1, rfl, HI.out, rfl, by first | exact HAA.out | exact HAA.out _ _ rfl⟩

theorem rtrim_any (A : Option Addr) (n c : Nat) (hs : List Int) (w : World) (h : IsAt w A n hs) (hnc : n ≤ c) (hn : n ≤ 1000000000000) :
  Calls Tryz.prog 211 #[.slice A n c] w fun e w' => ∃ A1, e = .returned (.slice A1 (tl hs n) c) ∧ IsAt w' A1 (tl hs n) (hs.take (tl hs n)) ∧ w' = w :=
 (rtrim_at A n c hs w h hnc hn).mono fun e w' ⟨A1, h1, h2, h3, _⟩ => ⟨A1, h1, h2, h3⟩
set_option maxHeartbeats 2000000 in
theorem rat_any (A : Option Addr) (n c i : Nat) (hs : List Int) (w : World) (h : IsAt w A n hs) :
  Calls Tryz.prog 212 #[.slice A n c, .int .i64 i] w fun e w' => e = .returned (.int .i64 (hs[i]?.getD 0)) ∧ w' = w := by
 by_cases hi : i < n
 ·obtain ⟨b, o, rfl, hb, hc⟩ := h.2 (by omega)
  have ci := hc i hi
  have i1 : (0 : Int) ≤ (i : Int) := by omega
  have i2 : (i : Int) < (n : Int) := by omega
  generalize hs[i]?.getD 0 = x at *
  clear h hc
  go_enter Tryz.func212, Tryz.ntmps212
  go_wp2
  go_ret
  exact ⟨rfl, rfl⟩
 ·have e : hs[i]?.getD 0 = 0 := by rw [List.getElem?_eq_none (by rw [h.1]; omega)]; rfl
  have d1 : decide ((i : Int) < (n : Int)) = false := by simp; omega
  rw [e]
  clear e h
  go_enter Tryz.func212, Tryz.ntmps212
  go_wp2
  go_ret
  exact ⟨rfl, rfl⟩

end Go.Proofs.YtjajigkacccdgaaGreat

namespace Go.Proofs.YtjajigkacccdgaaGreat
set_option linter.unusedVariables false
set_option linter.unusedSimpArgs false
open Go.RowKit
open Wd

/-- The digits to base 65536 of words. -/
def halvesL (l : List Nat) : List Int := l.flatMap fun d : Nat => [((d : Nat) : Int) % 65536, ((d : Nat) : Int) / 65536]
theorem halvesL_len (l : List Nat) : (halvesL l).length = 2 * l.length := by
 induction l with
 | nil => rfl
 | cons d l ih =>
  unfold halvesL at *
  rw [List.flatMap_cons, List.length_append, ih, List.length_cons]
  simp
  omega
theorem halvesL_snoc {l : List Nat} {i : Nat} (hi : i < l.length) : halvesL (l.take (i + 1)) = halvesL (l.take i) ++ [((l[i]?.getD 0 : Nat) : Int) % 65536, ((l[i]?.getD 0 : Nat) : Int) / 65536] := by
 have e : l.take (i + 1) = l.take i ++ [l[i]?.getD 0] := by rw [List.take_add_one, List.getElem?_eq_getElem hi]; rfl
 unfold halvesL
 rw [e, List.flatMap_append]
 simp
theorem two_one {a b : Int} : ∀ u ∈ (#[.int .i64 a, .int .i64 b] : Array Value).toList, u.oneCell' = true := by
 intro u hu
 simp at hu
 rcases hu with rfl | rfl <;> rfl

set_option maxRecDepth 100000 in
set_option maxHeartbeats 4000000 in
theorem rhalves_any (A : Option Addr) (n c : Nat) (l : List Nat) (w : World) (h : Wat w A n l) (hn : n ≤ 100000000000) :
  Calls Tryz.prog 186 #[.slice A n c] w fun e w' => ∃ A1 c1, e = .returned (.slice A1 (tl (halvesL l) (2 * n)) c1) ∧ IsAt w' A1 (tl (halvesL l) (2 * n)) ((halvesL l).take (tl (halvesL l) (2 * n))) ∧ Below w.heap.size w w' ∧ tl (halvesL l) (2 * n) ≤ c1 := by
 have HW := Lib.hid h
 obtain ⟨ii, hii, hz0, hz1, hz2⟩ := info_parts info_int
 have HI := Lib.hid hii
 have HZ0 := Lib.hid hz0
 have HZ1 := Lib.hid hz1
 have HZ2 := Lib.hid hz2
 clear h hii hz0 hz1 hz2
 go_enter Tryz.func186, Tryz.ntmps186
 go_wp2_with fail
 go_loopw [3, 4] (fun th t wr => ∃ (i : Nat) (Ah : Option Addr) (ch : Nat), i ≤ n ∧ t = .int .i64 i ∧ th = .slice Ah (2 * i) ch ∧ Hid (Below w.heap.size w wr ∧ Own w.heap.size 3 1 wr Ah (2 * i) ch ((halvesL (l.take i)).map (Value.int .i64)))) (fun _ t _ => n - (intOf t).toNat)
 case atStart => exact ⟨0, none, 0, Nat.zero_le _, rfl, rfl, Below.refl _ _, by rw [List.take_zero]; exact Own.nil _ _ _ _⟩
 case round =>
  obtain ⟨i, Ah, ch, hi, rfl, rfl, hR⟩ := hrel
  by_cases hlt : i < n
  ·obtain ⟨hB, hO⟩ := hR.out
   obtain ⟨b, o, rfl, hb, hc⟩ := HW.out.2.2 (by omega)
   have hci := hc i hlt
   have cx := (hB.cell (p := ⟨b, o + i, none⟩) hb).trans hci
   have hsn := halvesL_snoc (l := l) (i := i) (by rw [HW.out.1]; exact hlt)
   have hd := HW.out.2.1.get i
   generalize l[i]?.getD 0 = d at *
   have hbr : b < wr.heap.size := Nat.lt_of_lt_of_le hb hB.size
   have q0 := hB
   have k1 := (Kp.refl wr).alloc (.cells #[.int .i64 ((d : Int) % 65536), .int .i64 ((d : Int) / 65536)] 3)
   have q1 : Below w.heap.size w (wr.alloc (.cells #[.int .i64 ((d : Int) % 65536), .int .i64 ((d : Int) / 65536)] 3)) := hB.trans (Below.mono k1 hB.size)
   have o1 := hO.keep k1
   have m1 := Blk.new wr 3 #[.int .i64 ((d : Int) % 65536), .int .i64 ((d : Int) / 65536)]
   have hS : ∀ w', Below w.heap.size w w' → w'.cell? ⟨b, o + i, none⟩ = some (.int .u32 (d : Int)) ∧ Below w.heap.size w w' := fun w' hk => ⟨(hk.cell (p := ⟨b, o + i, none⟩) hb).trans hci, hk⟩
   have HS := Lib.hid hS
   have i1 : (0 : Int) ≤ (i : Int) := by omega
   have i2 : (i : Int) < (n : Int) := by omega
   have HSN := Lib.hid hsn
   have e1 : ((d : Int)).tmod 65536 = (d : Int) % 65536 := Int.tmod_eq_emod_of_nonneg (by omega)
   have e2 : IntKind.i64.wrap ((d : Int) % 65536) = (d : Int) % 65536 := IntWalk.i64_in _ (by omega)
   have e3 : IntKind.u32.wrap ((d : Int) / 65536) = (d : Int) / 65536 := by rw [IntKind.wrap_u32]; omega
   have e4 : IntKind.i64.wrap ((d : Int) / 65536) = (d : Int) / 65536 := IntWalk.i64_in _ (by omega)
   clear hS hc hsn hR cx hci
   go_wp2_with fail
   go_region_held3 (fun w' => w'.cell? ⟨b, o + i, none⟩ = some (.int .u32 (d : Int)) ∧ Below w.heap.size w w')
    (first | exact HS.out _ g1 | exact HS.out _ q0.drew | exact HS.out _ q1.drew)
    (first
     | (refine step_append_my (base := w.heap.size) (e := 3) (size := 1) (bytes := 8) (by rfl) (.tmp 11) (.tmp 24) 199 rfl Tryz.underlying199 HI.out HZ0.out HZ1.out HZ2.out rfl (by decide) (xs := (halvesL (l.take i)).map (Value.int .i64)) (news := [.int .i64 ((d : Int) % 65536), .int .i64 ((d : Int) / 65536)]) rfl (by exact o1) rfl (by exact Blk.src m1 rfl two_one) (by simp only [maxLen]; omega) (by omega) (Below.size (w := w) (B := w.heap.size) (by exact q1.drew)) ?_
        intro B1 cb1 w1 hO1 hb1 hk1
        have g1 : Below w.heap.size w w1 := Below.trans (by exact q1.drew) hb1
        clear hb1 hk1))
   have hfin : Below w.heap.size w w1 ∧ Own w.heap.size 3 1 w1 B1 (2 * (i + 1)) cb1 ((halvesL (l.take (i + 1))).map (Value.int .i64)) := by
    refine ⟨g1, ?_⟩
    rw [HSN.out, List.map_append, show 2 * (i + 1) = 2 * i + 2 by omega]
    exact hO1
   have HF := Lib.hid hfin
   clear hfin g1 hO1
   go_wp2
   go_roundw
   case rel => exact ⟨i + 1, B1, cb1, by omega, by go_num, by rw [show 2 * (i + 1) = 2 * i + 2 by omega], HF.out⟩
   case measure => simp [intOf]; omega
  ·obtain rfl : i = n := by omega
   obtain ⟨hB, hO⟩ := hR.out
   rw [List.take_of_length_le (by rw [HW.out.1]; exact Nat.le_refl _)] at hO
   have hle : 2 * i ≤ ch := by
    rcases hO.2 with ⟨h7, h8⟩ | ⟨g', cap', cur', h7, _, _, h8, _⟩
    ·omega
    ·simp at h7; omega
   have T := rtrim_any Ah (2 * i) ch (halvesL l) wr hO.ints hle (by omega)
   have HT := Lib.hid T
   have HB := Lib.hid hB
   clear hR hB hO T
   go_wp2_with fail
   refine HT.out.mono ?_
   rintro e w1 ⟨A1, rfl, hI, rfl⟩
   have HI2 := Lib.hid hI
   clear hI HT
   go_wp2
   go_ret
   exact ⟨A1, ch, rfl, HI2.out, HB.out, Nat.le_trans (tl_le _ _) hle⟩

end Go.Proofs.YtjajigkacccdgaaGreat

namespace Go.Proofs.YtjajigkacccdgaaGreat
set_option linter.unusedVariables false
set_option linter.unusedSimpArgs false
open Go.RowKit
open Wd

/-- The word of two digits. -/
def wd2 (hs : List Int) (j : Nat) : Nat := (hs[2 * j]?.getD 0 + hs[2 * j + 1]?.getD 0 * 65536).toNat
def wdsL (hs : List Int) (m : Nat) : List Nat := (List.range m).map (wd2 hs)
def Dg (hs : List Int) : Prop := ∀ i : Nat, 0 ≤ hs[i]?.getD 0 ∧ hs[i]?.getD 0 < 65536
theorem wd2_lt {hs : List Int} (h : Dg hs) (j : Nat) : wd2 hs j < 4294967296 ∧ ((wd2 hs j : Nat) : Int) = hs[2 * j]?.getD 0 + hs[2 * j + 1]?.getD 0 * 65536 := by
 have h1 := h (2 * j)
 have h2 := h (2 * j + 1)
 unfold wd2
 omega
theorem wdsL_snoc (hs : List Int) (m : Nat) : wdsL hs (m + 1) = wdsL hs m ++ [wd2 hs m] := by
 unfold wdsL
 rw [List.range_succ, List.map_append]
 rfl
theorem wdsL_len (hs : List Int) (m : Nat) : (wdsL hs m).length = m := by simp [wdsL]
theorem wdsL_Ws {hs : List Int} (h : Dg hs) (m : Nat) : Ws (wdsL hs m) := fun x hx => by
 obtain ⟨j, _, rfl⟩ := List.mem_map.1 hx
 exact (wd2_lt h j).1
theorem u32_one {b : Int} : ∀ u ∈ (#[.int .u32 b] : Array Value).toList, u.oneCell' = true := by
 intro u hu
 simp at hu
 rw [hu]
 rfl
/-- The result of of: words in new memory. -/
def RetOf (w : World) (neg : Bool) (l : List Nat) (e : Ending) (w' : World) : Prop :=
 ∃ A c, e = .returned (.agg #[.bool (neg && decide (0 < l.length)), .slice A l.length c]) ∧ l.length ≤ c ∧ Wat w' A l.length l ∧ Fresh w.heap.size w' A l.length ∧ Below w.heap.size w w'

set_option maxRecDepth 100000 in
set_option maxHeartbeats 4000000 in
theorem rof_any (neg : Bool) (A : Option Addr) (n c : Nat) (hs : List Int) (w : World) (h : IsAt w A n hs) (hnc : n ≤ c) (hn : n ≤ 1000000000000) (hd : Dg hs) :
  Calls Tryz.prog 184 #[.bool neg, .slice A n c] w (RetOf w neg (wdsL (hs.take (tl hs n)) ((tl hs n + 1) / 2))) := by
 have HT := Lib.hid (fun W (hW : Below w.heap.size w W) => rtrim_any A n c hs W (h.below hW) hnc (by omega))
 have hk := tl_le hs n
 have hd2 : Dg (hs.take (tl hs n)) := fun i => by
  rw [List.getElem?_take]
  split
  ·exact hd i
  ·simp
 generalize hs.take (tl hs n) = ts at *
 generalize tl hs n = k at *
 obtain ⟨ii, hii, hz0, hz1, hz2⟩ := info_parts info_u32
 have HI := Lib.hid hii
 have HZ0 := Lib.hid hz0
 have HZ1 := Lib.hid hz1
 have HZ2 := Lib.hid hz2
 have HD := Lib.hid hd2
 clear h hii hz0 hz1 hz2 hd hd2
 go_enter Tryz.func184, Tryz.ntmps184
 go_wp2_with fail
 have hbx := Blk.new w 40 #[.bool false, .slice none 0 0]
 have hb0 : Below w.heap.size w (w.alloc (.cells #[.bool false, .slice none 0 0] 40)) := (Below.refl _ _).alloc (Nat.le_refl _) _
 generalize w.alloc (.cells #[.bool false, .slice none 0 0] 40) = W at *
 refine (HT.out W hb0).mono ?_
 rintro e w1 ⟨A1, rfl, hI, rfl⟩
 have HI1 := Lib.hid hI
 have HBX := Lib.hid hbx
 have HB0 := Lib.hid hb0
 have hwl : w.heap.size < w1.heap.size := hbx.lt
 clear hI HT hbx hb0
 go_wp2_with fail
 go_loopw [5, 6] (fun tw t wr => ∃ (j : Nat) (Aw : Option Addr) (cw : Nat), 2 * j ≤ k + 1 ∧ t = .int .i64 ((2 * j : Nat) : Int) ∧ tw = .slice Aw j cw ∧ Hid (Below w1.heap.size w1 wr ∧ Own w1.heap.size 59 1 wr Aw j cw (u32s (wdsL ts j)))) (fun _ t _ => k + 1 - (intOf t).toNat)
 case atStart => exact ⟨0, none, 0, by omega, rfl, rfl, Below.refl _ _, Own.nil _ _ _ _⟩
 case round =>
  obtain ⟨j, Aw, cw, hj, rfl, rfl, hR⟩ := hrel
  by_cases hlt : 2 * j < k
  ·obtain ⟨hB, hO⟩ := hR.out
   obtain ⟨x1, x2⟩ := wd2_lt HD.out j
   have y1 := HD.out (2 * j)
   have y2 := HD.out (2 * j + 1)
   have T1 := rat_any A1 k c (2 * j) ts wr (HI1.out.below hB)
   have T2 := rat_any A1 k c (2 * j + 1) ts wr (HI1.out.below hB)
   have hsn := wdsL_snoc ts j
   generalize ts[2 * j]?.getD 0 = a at *
   generalize ts[2 * j + 1]?.getD 0 = b at *
   generalize wd2 ts j = d at *
   have e1 : IntKind.u32.wrap a = a := by rw [IntKind.wrap_u32]; omega
   have e2 : IntKind.u32.wrap b = b := by rw [IntKind.wrap_u32]; omega
   have e3 : IntKind.u32.wrap (b * 65536) = b * 65536 := by rw [IntKind.wrap_u32]; omega
   have e4 : IntKind.u32.wrap (a + b * 65536) = (d : Int) := by rw [IntKind.wrap_u32]; omega
   have e5 : IntKind.i64.wrap (((2 * j : Nat) : Int) + 1) = ((2 * j + 1 : Nat) : Int) := IntWalk.i64_in _ (by omega)
   have d1 : decide (((2 * j : Nat) : Int) < (k : Int)) = true := decide_eq_true (by omega)
   have e6 : IntKind.i64.wrap (((2 * j : Nat) : Int) + 2) = ((2 * (j + 1) : Nat) : Int) := IntWalk.i64_in _ (by omega)
   have HT1 := Lib.hid T1
   have HT2 := Lib.hid T2
   have HSN := Lib.hid hsn
   have HX2 := Lib.hid x2
   clear T1 T2 hsn x2 y1 y2 hR
   generalize hz : ((2 * j : Nat) : Int) = z at *
   have HZ := Lib.hid hz
   generalize hz' : ((2 * j + 1 : Nat) : Int) = z' at *
   generalize hz2 : ((2 * (j + 1) : Nat) : Int) = z2 at *
   have HZ2' := Lib.hid hz2
   clear hz hz' hz2
   have k1 := (Kp.refl wr).alloc (.cells #[.int .u32 (d : Int)] 59)
   have q1 : Below w1.heap.size w1 (wr.alloc (.cells #[.int .u32 (d : Int)] 59)) := hB.trans (Below.mono k1 hB.size)
   have o1 := hO.keep k1
   have m1 := Blk.new wr 59 #[.int .u32 (d : Int)]
   go_wp2_with fail
   refine HT1.out.mono ?_
   rintro e w2 ⟨rfl, rfl⟩
   clear HT1
   go_wp2_with fail
   refine HT2.out.mono ?_
   rintro e w3 ⟨rfl, rfl⟩
   clear HT2
   go_wp2_with (first
    | (at_builtin; refine wpList_append_my rfl (base := w1.heap.size) (e := 59) (size := 1) (bytes := 4) (.tmp 15) (.tmp 27) 38 rfl Tryz.underlying38 HI.out HZ0.out HZ1.out HZ2.out rfl (by decide) (xs := u32s (wdsL ts j)) (news := [.int .u32 (d : Int)]) rfl (by exact o1) rfl (by exact Blk.src m1 rfl u32_one) (by simp only [maxLen]; omega) (by omega) (by exact q1.size) ?_
       intro B1 cb1 w4 hO1 hb1 hk1
       have g1 : Below w1.heap.size w1 w4 := q1.trans hb1
       clear hb1 hk1))
   have hfin : Below w1.heap.size w1 w4 ∧ Own w1.heap.size 59 1 w4 B1 (j + 1) cb1 (u32s (wdsL ts (j + 1))) := by
    refine ⟨g1, ?_⟩
    rw [HSN.out, u32s_append]
    exact hO1
   have HF := Lib.hid hfin
   clear hfin g1 hO1 m1 o1 q1 k1 hO hB
   go_wp2
   go_roundw
   case rel => exact ⟨j + 1, B1, cb1, by omega, by rw [HZ2'.out], rfl, HF.out⟩
   case measure => rw [← HZ2'.out, ← HZ.out]; simp [intOf]; omega
  ·obtain ⟨hB, hO⟩ := hR.out
   have hjm : (k + 1) / 2 = j := by omega
   have d1 : decide (((2 * j : Nat) : Int) < (k : Int)) = false := decide_eq_false (by omega)
   obtain ⟨A9, c9, hv9, hc9, _, hW9, hF9⟩ := wat_of_own (wdsL_Ws HD.out j) hO
   simp at hv9
   obtain ⟨rfl, rfl⟩ := hv9
   have hbx := HBX.out.below hB HBX.out.lt
   have hB9 : Below w.heap.size w wr := HB0.out.trans (hB.mono HB0.out.size)
   have hfin : ∀ bv, (neg && decide (0 < j)) = bv → RetOf w neg (wdsL ts ((k + 1) / 2)) (.returned (.agg #[.bool bv, .slice Aw j cw])) ((wr.setCell ⟨w.heap.size, 0, none⟩ (.bool bv)).setCell ⟨w.heap.size, 1, none⟩ (.slice Aw j cw)) := by
    intro bv hbv
    rw [hjm]
    refine ⟨Aw, cw, by rw [wdsL_len, hbv], by rw [wdsL_len]; exact hc9, ?_, ?_, (hB9.setCell (p := ⟨w.heap.size, 0, none⟩) (Nat.le_refl _) _).setCell (p := ⟨w.heap.size, 1, none⟩) (Nat.le_refl _) _⟩
    ·rw [wdsL_len]
     exact (hW9.setFar hF9 (p := ⟨w.heap.size, 0, none⟩) (by simp; omega) _).setFar (hF9.set _ _) (p := ⟨w.heap.size, 1, none⟩) (by simp; omega) _
    ·rw [wdsL_len]
     exact ((hF9.set _ _).set _ _).mono (by omega)
   have hcell : ∀ bv : Bool, ((wr.setCell ⟨w.heap.size, 0, none⟩ (.bool bv)).setCell ⟨w.heap.size, 1, none⟩ (.slice Aw j cw)).cell? ⟨w.heap.size, 0, none⟩ = some (.bool bv) ∧ ((wr.setCell ⟨w.heap.size, 0, none⟩ (.bool bv)).setCell ⟨w.heap.size, 1, none⟩ (.slice Aw j cw)).cell? ⟨w.heap.size, 1, none⟩ = some (.slice Aw j cw) := fun bv => by
    have hbx2 : Blk _ w.heap.size 40 #[.bool bv, .slice Aw j cw] := (hbx.set 0 (.bool bv)).set 1 (.slice Aw j cw)
    exact ⟨hbx2.cell 0, hbx2.cell 1⟩
   obtain ⟨b0, b1, f0, f1⟩ := hbx.two
   have HF := Lib.hid hfin
   clear hfin hjm hB hO hR hW9 hF9 hB9 hbx
   cases neg with
   | false =>
    obtain ⟨g0, g1⟩ := hcell false
    have HFF := Lib.hid (HF.out false rfl)
    clear hcell
    go_wp2
    refine bodyPost_ret (v := .agg #[.bool false, .slice Aw j cw]) ?_ rfl HFF.out
    simp [results, Tryz.results184, go_sem, g0, g1]
   | true =>
    by_cases hj0 : 0 < j
    ·have d2 : decide ((0 : Int) < (j : Int)) = true := decide_eq_true (by omega)
     obtain ⟨g0, g1⟩ := hcell true
     have HFF := Lib.hid (HF.out true (by simp [hj0]))
     clear hcell
     go_wp2
     refine bodyPost_ret (v := .agg #[.bool true, .slice Aw j cw]) ?_ rfl HFF.out
     simp [results, Tryz.results184, go_sem, g0, g1]
    ·have d2 : decide ((0 : Int) < (j : Int)) = false := decide_eq_false (by omega)
     obtain ⟨g0, g1⟩ := hcell false
     have HFF := Lib.hid (HF.out false (by simp [hj0]))
     clear hcell
     go_wp2
     refine bodyPost_ret (v := .agg #[.bool false, .slice Aw j cw]) ?_ rfl HFF.out
     simp [results, Tryz.results184, go_sem, g0, g1]

end Go.Proofs.YtjajigkacccdgaaGreat
