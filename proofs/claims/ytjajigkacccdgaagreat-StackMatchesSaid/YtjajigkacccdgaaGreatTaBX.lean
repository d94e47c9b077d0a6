/-
Tools for StackMatches: Same of reference 23 on equal rows, a row of steps as a source, spoil of whatever a merge returns. No statement of the seat is proved here; no conditions beyond those of each theorem.
-/
import Derived.Test.YtjajigkacccdgaaGreatTaBP
import Derived.Test.YtjajigkacccdgaaGreatTaBW
namespace Go.Proofs.YtjajigkacccdgaaGreat
set_option linter.unusedVariables false
set_option linter.unusedSimpArgs false
open Go.RowKit
open Wd

theorem StAt.src {w : World} {A : Option Addr} {n : Nat} {l : List (Int × Int)} (h : StAt w A n l) : SrcAt w A n 2 (stCells l) := by
 refine ⟨by rw [stCells_len, h.1], stCells_one l, ?_⟩
 by_cases hn : n = 0
 ·subst hn
  have e : l = [] := List.eq_nil_of_length_eq_zero h.1
  subst e
  cases A with
  | none => exact Or.inl ⟨rfl, rfl⟩
  | some ad => exact Or.inr ⟨ad, rfl, by simp [stCells]⟩
 ·obtain ⟨b, o, rfl, hlt, hc⟩ := h.2.2 hn
  refine Or.inr ⟨_, rfl, fun j u hu => ?_⟩
  have hj : j < (stCells l).length := (List.getElem?_eq_some_iff.1 hu).1
  rw [stCells_len, h.1] at hj
  obtain ⟨g1, g2⟩ := stCells_get l (j / 2) (by rw [h.1]; omega)
  obtain ⟨c1, c2⟩ := hc (j / 2) (by omega)
  rw [addr_add]
  by_cases he : j % 2 = 0
  ·rw [show j / 2 * 2 = j by omega] at g1 c1
   rw [c1, ← hu, g1]
  ·rw [show j / 2 * 2 + 1 = j by omega] at g2
   rw [show o + j / 2 * 2 + 1 = o + j by omega] at c2
   rw [c2, ← hu, g2]

set_option maxRecDepth 100000 in
set_option maxHeartbeats 4000000 in
theorem same23_yes (A B : Option Addr) (n c d : Nat) (l : List (Int × Int)) (w : World) (h : StAt w A n l) (h' : StAt w B n l) (hn : n ≤ 1000000) :
  Calls Tryz.prog 20 #[.slice A n c, .slice B n d] w fun e w' => e = .returned (.bool true) ∧ Below w.heap.size w w' := by
 have HX := Lib.hid h
 have HY := Lib.hid h'
 clear h h'
 have bn : ((n : Int) != (n : Int)) = false := by simp
 go_enter Tryz.func20, Tryz.ntmps20
 go_wp2_with fail
 go_loopw [5] (fun t wr => ∃ k : Nat, k ≤ n ∧ t = .int .i64 k ∧ Hid (Below w.heap.size w wr)) (fun t _ => n - (intOf t).toNat)
 case atStart => exact ⟨0, Nat.zero_le _, rfl, Below.refl _ _⟩
 case round =>
  obtain ⟨k, hk, rfl, hR⟩ := hrel
  by_cases hlt : k < n
  ·obtain ⟨b, o, rfl, hb, hc⟩ := HX.out.2.2 (by omega)
   obtain ⟨b', o', rfl, hb', hc'⟩ := HY.out.2.2 (by omega)
   obtain ⟨x1, x2⟩ := hc k hlt
   obtain ⟨y1, y2⟩ := hc' k hlt
   generalize (l[k]?.getD (0, 0)).1 = q at *
   generalize (l[k]?.getD (0, 0)).2 = p at *
   have k1 : (0 : Int) ≤ (k : Int) := by omega
   have k2 : (k : Int) < (n : Int) := by omega
   have HS := Lib.hid (show ∀ w', Below w.heap.size w w' → (w'.cell? ⟨b, o + k * 2, none⟩ = some (.int .i64 q) ∧ w'.cell? ⟨b, o + k * 2 + 1, none⟩ = some (.int .i64 p) ∧ w'.cell? ⟨b', o' + k * 2, none⟩ = some (.int .i64 q) ∧ w'.cell? ⟨b', o' + k * 2 + 1, none⟩ = some (.int .i64 p)) ∧ Below w.heap.size w w' from fun w' hw => ⟨⟨(hw.cell (p := ⟨b, _, none⟩) hb).trans x1, (hw.cell (p := ⟨b, _, none⟩) hb).trans x2, (hw.cell (p := ⟨b', _, none⟩) hb').trans y1, (hw.cell (p := ⟨b', _, none⟩) hb').trans y2⟩, hw⟩)
   have q0 := hR.out
   clear hc hc' x1 x2 y1 y2 hR
   go_wp2_with fail
   go_region_held3 (fun w' => (w'.cell? ⟨b, o + k * 2, none⟩ = some (.int .i64 q) ∧ w'.cell? ⟨b, o + k * 2 + 1, none⟩ = some (.int .i64 p) ∧ w'.cell? ⟨b', o' + k * 2, none⟩ = some (.int .i64 q) ∧ w'.cell? ⟨b', o' + k * 2 + 1, none⟩ = some (.int .i64 p)) ∧ Below w.heap.size w w')
    (first | exact HS.out _ q0.drew)
    (fail)
   have HF := Lib.hid q0.drew
   clear q0 HS
   go_wp2
   go_roundw
   case rel => exact ⟨k + 1, by omega, by go_num, HF.out⟩
   case measure => simp [intOf]; omega
  ·obtain rfl : k = n := by omega
   go_wp2
   go_ret
   exact ⟨rfl, hR.out⟩

/-- A row of levels that another spoil does not reach. -/
theorem LvF.sx {base top base' top' g m : Nat} {w w' : World} (h : LvF base' top' w g m) (hs : Sx base top w w') (h1 : top ≤ base') (h2 : top ≤ g) : LvF base' top' w' g m := by
 have hc : ∀ (b o : Nat), top ≤ b → w'.cell? ⟨b, o, none⟩ = w.cell? ⟨b, o, none⟩ ∧ w'.frozen? ⟨b, o, none⟩ = w.frozen? ⟨b, o, none⟩ := fun b o hb => ⟨World.cell?_of_block (a := ⟨b, o, none⟩) (hs.2.2 b hb), World.frozen?_of_block (a := ⟨b, o, none⟩) (hs.2.2 b hb)⟩
 refine ⟨by rw [hs.2.1]; exact h.1, fun x hx => ?_, fun j hj => ?_⟩
 ·obtain ⟨⟨v, e1⟩, e2⟩ := h.2.1 x hx
  exact ⟨⟨v, (hc g x h2).1.trans e1⟩, (hc g x h2).2.trans e2⟩
 ·obtain ⟨A, k, c, e1, e2, e3⟩ := h.2.2 j hj
  refine ⟨A, k, c, (hc g _ h2).1.trans e1, ⟨e2.1, fun hk => ?_⟩, e3⟩
  obtain ⟨b, o, rfl, f1, f2, f3, f4⟩ := e2.2 hk
  exact ⟨b, o, rfl, f1, f2, by rw [hs.2.1]; exact f3, fun y hy => ⟨(f4 y hy).1.imp fun v hv => (hc b _ (by omega)).1.trans hv, (hc b _ (by omega)).2.trans (f4 y hy).2⟩⟩
set_option maxRecDepth 100000 in
set_option maxHeartbeats 1000000 in
theorem spoil24_o (base top : Nat) (A : Option Addr) (m c0 : Nat) (w : World) (h : m ≠ 0 → ∃ g, A = some ⟨g, 0, none⟩ ∧ base ≤ g ∧ g < top ∧ LvF base top w g m) (hm : m ≤ 1000000) :
  Calls Tryz.prog 21 #[.slice A m c0] w fun e w' => e = .returned (.tuple #[]) ∧ Sx base top w w' := by
 by_cases h0 : m = 0
 ·subst h0
  clear h hm
  go_enter Tryz.func21, Tryz.ntmps21
  go_wp2_with fail
  go_loopw [2] (fun t wr => t = .int .i64 0 ∧ w = wr) (fun t _ => 0)
  case atStart => exact ⟨rfl, rfl⟩
  case round =>
   obtain ⟨rfl, rfl⟩ := hrel
   go_wp2
   refine bodyPost_end (v := .tuple #[]) ?_ rfl ⟨rfl, Sx.refl _ _ _⟩
   simp [results, Tryz.results21]
 ·obtain ⟨g, rfl, h1, h2, h3⟩ := h h0
  exact spoil24_any base top g m c0 w h3 h1 h2 hm

end Go.Proofs.YtjajigkacccdgaaGreat
