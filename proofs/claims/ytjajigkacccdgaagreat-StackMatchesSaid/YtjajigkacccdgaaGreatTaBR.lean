/-
A row of rationals that is appended to. The reference of layer 24: Same. No statement of the seat is proved here; no conditions beyond those of each theorem.
-/
import Derived.Test.YtjajigkacccdgaaGreatTaBQ
import Derived.Test.YtjajigkacccdgaaGreatTaBA
namespace Go.Proofs.YtjajigkacccdgaaGreat
set_option linter.unusedVariables false
set_option linter.unusedSimpArgs false
open Go.RowKit
open Wd

/-- The words do not lie in the block of B. -/
def Off (B A : Option Addr) (k : Nat) : Prop := k ≠ 0 → ∃ b o, A = some ⟨b, o, none⟩ ∧ B.map (fun a => a.block) ≠ some b
theorem Off.fresh {base : Nat} {w : World} {A B : Option Addr} {k : Nat} (h : Fresh base w A k) (hB : ∀ b, B.map (fun a => a.block) = some b → b < base) : Off B A k := fun hk => by
 obtain ⟨b, o, rfl, hb, _⟩ := h hk
 exact ⟨b, o, rfl, fun he => by have := hB b he; omega⟩
theorem Wat.kept {w w' : World} {A B : Option Addr} {k : Nat} {l : List Nat} (h : Wat w A k l) (ho : Off B A k) (hk : Kept w w' B) : Wat w' A k l := by
 refine ⟨h.1, h.2.1, fun h0 => ?_⟩
 obtain ⟨b, o, rfl, hlt, hc⟩ := h.2.2 h0
 obtain ⟨b', o', he, hne⟩ := ho h0
 cases he
 refine ⟨b, o, rfl, Nat.lt_of_lt_of_le hlt hk.1, fun j hj => ?_⟩
 exact (World.cell?_of_block (hk.2 b hlt hne)).trans (hc j hj)
theorem Off.same {w : World} {A B B' : Option Addr} {k : Nat} {l : List Nat} (h : Wat w A k l) (ho : Off B A k) (hs : SameOr w B B') : Off B' A k := fun h0 => by
 obtain ⟨b, o, rfl, hlt, _⟩ := h.2.2 h0
 obtain ⟨b', o', he, hne⟩ := ho h0
 cases he
 refine ⟨b, o, rfl, fun hB => ?_⟩
 rcases hs with hs | hs
 ·exact hne (hs ▸ hB)
 ·rw [hs] at hB
  simp at hB
  omega
theorem Own.blk_lt {base : Nat} {e : TypeId} {size : Nat} {w : World} {A : Option Addr} {n c : Nat} {xs : List Value} (h : Own base e size w A n c xs) : ∀ b, A.map (fun a => a.block) = some b → b < w.heap.size := fun b hb => by
 rcases h.2 with ⟨h6, _⟩ | ⟨g', cap', cur', h6, _, h7, _⟩
 ·simp at h6
  rw [h6.1] at hb
  simp at hb
 ·simp at h6
  rw [h6.1] at hb
  simp at hb
  rw [← hb]
  exact (Array.getElem?_eq_some_iff.1 h7).1

/-- A rational in memory: its sign, where numerator and denominator lie. -/
abbrev QEnt := Bool × (Option Addr × Nat × Nat) × (Option Addr × Nat × Nat)
def QEnt0 : QEnt := (false, (none, 0, 0), (none, 0, 0))
def qCells (es : List QEnt) : List Value := es.flatMap fun e => [.bool e.1, .slice e.2.1.1 e.2.1.2.1 e.2.1.2.2, .bool false, .slice e.2.2.1 e.2.2.2.1 e.2.2.2.2]
theorem qCells_append (a b : List QEnt) : qCells (a ++ b) = qCells a ++ qCells b := by simp [qCells]
theorem qCells_cons (s : QEnt) (l : List QEnt) : qCells (s :: l) = .bool s.1 :: .slice s.2.1.1 s.2.1.2.1 s.2.1.2.2 :: .bool false :: .slice s.2.2.1 s.2.2.2.1 s.2.2.2.2 :: qCells l := by simp [qCells]
theorem qCells_len (l : List QEnt) : (qCells l).length = l.length * 4 := by
 induction l with
 | nil => rfl
 | cons s l ih => rw [qCells_cons]; simp [ih]; omega
theorem qCells_get : ∀ (l : List QEnt) (j : Nat), j < l.length → (qCells l)[j * 4]? = some (.bool (l[j]?.getD QEnt0).1) ∧ (qCells l)[j * 4 + 1]? = some (.slice (l[j]?.getD QEnt0).2.1.1 (l[j]?.getD QEnt0).2.1.2.1 (l[j]?.getD QEnt0).2.1.2.2) ∧ (qCells l)[j * 4 + 2]? = some (.bool false) ∧ (qCells l)[j * 4 + 3]? = some (.slice (l[j]?.getD QEnt0).2.2.1 (l[j]?.getD QEnt0).2.2.2.1 (l[j]?.getD QEnt0).2.2.2.2)
 | [], j, h => absurd h (by simp)
 | s :: l, 0, _ => by simp [qCells]
 | s :: l, j + 1, h => by
  have ih := qCells_get l j (by simpa using h)
  rw [qCells_cons, show (j + 1) * 4 = j * 4 + 1 + 1 + 1 + 1 by omega, show j * 4 + 1 + 1 + 1 + 1 + 1 = (j * 4 + 1) + 1 + 1 + 1 + 1 by omega, show j * 4 + 1 + 1 + 1 + 1 + 2 = (j * 4 + 2) + 1 + 1 + 1 + 1 by omega, show j * 4 + 1 + 1 + 1 + 1 + 3 = (j * 4 + 3) + 1 + 1 + 1 + 1 by omega]
  simp only [List.getElem?_cons_succ]
  exact ih
theorem qCells_one (l : List QEnt) : ∀ u ∈ qCells l, u.oneCell' = true := by
 intro u hu
 obtain ⟨s, _, h⟩ := List.mem_flatMap.1 hu
 simp at h
 rcases h with rfl | rfl | rfl | rfl <;> rfl

def QEnts (B : Option Addr) (ps : List Rat) (w : World) (i : Nat) (es : List QEnt) : Prop :=
 es.length = i ∧ ∀ j, j < i → (es[j]?.getD QEnt0).1 = decide ((ps[j]?.getD 0).num < 0) ∧ WQ w (ps[j]?.getD 0) (es[j]?.getD QEnt0).2.1.1 (es[j]?.getD QEnt0).2.1.2.1 (es[j]?.getD QEnt0).2.1.2.2 (es[j]?.getD QEnt0).2.2.1 (es[j]?.getD QEnt0).2.2.2.1 (es[j]?.getD QEnt0).2.2.2.2 ∧
  Off B (es[j]?.getD QEnt0).2.1.1 (es[j]?.getD QEnt0).2.1.2.1 ∧ Off B (es[j]?.getD QEnt0).2.2.1 (es[j]?.getD QEnt0).2.2.2.1
section
variable {B : Option Addr} {ps : List Rat} {w w' : World} {i : Nat} {es : List QEnt}
theorem QEnts.start : QEnts B ps w 0 [] := ⟨rfl, fun j hj => absurd hj (by omega)⟩
theorem QEnts.below (h : QEnts B ps w i es) (hb : Below w.heap.size w w') : QEnts B ps w' i es :=
 ⟨h.1, fun j hj => ⟨(h.2 j hj).1, (h.2 j hj).2.1.below hb, (h.2 j hj).2.2⟩⟩
theorem QEnts.app {B' : Option Addr} (h : QEnts B ps w i es) (hk : Kept w w' B) (hs : SameOr w B B') : QEnts B' ps w' i es := by
 refine ⟨h.1, fun j hj => ?_⟩
 obtain ⟨h1, ⟨h2, h3, h4, h5⟩, h6, h7⟩ := h.2 j hj
 exact ⟨h1, ⟨h2, h3, h4.kept h6 hk, h5.kept h7 hk⟩, Off.same h4 h6 hs, Off.same h5 h7 hs⟩
theorem QEnts.snoc {s : Bool} {A A' : Option Addr} {k c k' c' : Nat} (h : QEnts B ps w i es) (h1 : s = decide ((ps[i]?.getD 0).num < 0)) (h2 : WQ w (ps[i]?.getD 0) A k c A' k' c') (h3 : Off B A k) (h4 : Off B A' k') : QEnts B ps w (i + 1) (es ++ [(s, (A, k, c), (A', k', c'))]) := by
 have hl := h.1
 refine ⟨by simp [hl], fun j hj => ?_⟩
 by_cases hji : j < i
 ·rw [List.getElem?_append_left (by omega)]
  exact h.2 j hji
 ·obtain rfl : j = i := by omega
  rw [List.getElem?_append_right (by omega), hl, Nat.sub_self]
  exact ⟨h1, h2, h3, h4⟩
theorem Own.qs {base : Nat} {e : TypeId} {n c : Nat} (h : Own base e 4 w B n c (qCells es)) (hl : ps.length = n) (he : QEnts B ps w n es) : QsAt w B n ps := by
 refine ⟨hl, fun hn => ?_⟩
 have hel := he.1
 have hcl := qCells_len es
 obtain ⟨g, cap, hv, hb, hlt⟩ := World.ownsRow.form h (by omega)
 simp at hv
 obtain ⟨rfl, rfl⟩ := hv
 refine ⟨g, 0, rfl, hlt, fun j hj => ?_⟩
 obtain ⟨g1, g2, g3, g4⟩ := qCells_get es j (by omega)
 obtain ⟨e1, e2, _, _⟩ := he.2 j hj
 refine ⟨_, _, _, _, _, _, ?_, ?_, ?_, ?_, e2⟩
 ·rw [Nat.zero_add, World.ownsRow.cellAt h (j * 4) (by omega), g1, e1]
 ·rw [Nat.zero_add, World.ownsRow.cellAt h (j * 4 + 1) (by omega), g2]
 ·rw [Nat.zero_add, World.ownsRow.cellAt h (j * 4 + 2) (by omega), g3]
 ·rw [Nat.zero_add, World.ownsRow.cellAt h (j * 4 + 3) (by omega), g4]
end
theorem info_q : (Tryz.prog.info? 42).map (fun i => (i.zero, i.size, i.bytes)) = some (some (.agg #[.bool false, .slice none 0 0, .bool false, .slice none 0 0]), 4, 64) := by kernel_rfl

end Go.Proofs.YtjajigkacccdgaaGreat

namespace Go.Proofs.YtjajigkacccdgaaGreat
set_option linter.unusedVariables false
set_option linter.unusedSimpArgs false
open Go.RowKit
open Wd

set_option maxRecDepth 100000 in
set_option maxHeartbeats 4000000 in
theorem same24_yes (A B : Option Addr) (m n c d : Nat) (lv : List St.Lv) (w : World) (h : LvAt w A m n lv) (h' : LvAt w B m n lv) (hm : m ≤ 1000000) (hn : n ≤ 1000000) :
  Calls Tryz.prog 18 #[.slice A m c, .slice B m d] w fun e w' => e = .returned (.bool true) ∧ Below w.heap.size w w' := by
 have HX := Lib.hid h
 have HY := Lib.hid h'
 have hne : ((m : Int) != (m : Int)) = false := by simp
 have hne2 : ((n : Int) != (n : Int)) = false := by simp
 clear h h'
 go_enter Tryz.func18, Tryz.ntmps18
 go_wp2_with fail
 go_loopw [5] (fun t wr => ∃ k : Nat, k ≤ m ∧ t = .int .i64 k ∧ Hid (Below w.heap.size w wr)) (fun t _ => m - (intOf t).toNat)
 case atStart => exact ⟨0, Nat.zero_le _, rfl, Below.refl _ _⟩
 case round =>
  obtain ⟨k, hk, rfl, hB⟩ := hrel
  by_cases hlt : k < m
  ·obtain ⟨b, o, rfl, hb, hc⟩ := HX.out.2 (by omega)
   obtain ⟨b', o', rfl, hb', hc'⟩ := HY.out.2 (by omega)
   obtain ⟨A1, c1, ⟨e0, e1, e2⟩, hp⟩ := hc k hlt
   obtain ⟨B1, d1, ⟨f0, f1, f2⟩, hp'⟩ := hc' k hlt
   have hki1 : (0 : Int) ≤ (k : Int) := by omega
   have hki2 : (k : Int) < (m : Int) := by omega
   generalize (lv[k]?.getD Lv0).1 = pz at *
   generalize (lv[k]?.getD Lv0).2.1 = qz at *
   generalize (lv[k]?.getD Lv0).2.2 = xs at *
   have hcl : ∀ w', Below w.heap.size w w' → (w'.cell? ⟨b, o + k * 3, none⟩ = some (.int .i64 pz) ∧ w'.cell? ⟨b, o + k * 3 + 1, none⟩ = some (.int .i64 qz) ∧ w'.cell? ⟨b, o + k * 3 + 2, none⟩ = some (.slice A1 n c1)) ∧ w'.cell? ⟨b', o' + k * 3, none⟩ = some (.int .i64 pz) ∧ w'.cell? ⟨b', o' + k * 3 + 1, none⟩ = some (.int .i64 qz) ∧ w'.cell? ⟨b', o' + k * 3 + 2, none⟩ = some (.slice B1 n d1) := fun w' hk =>
    ⟨⟨(hk.cell (p := ⟨b, _, none⟩) hb).trans e0, (hk.cell (p := ⟨b, _, none⟩) hb).trans e1, (hk.cell (p := ⟨b, _, none⟩) hb).trans e2⟩, (hk.cell (p := ⟨b', _, none⟩) hb').trans f0, (hk.cell (p := ⟨b', _, none⟩) hb').trans f1, (hk.cell (p := ⟨b', _, none⟩) hb').trans f2⟩
   obtain ⟨⟨u0, u1, u2⟩, v0, v1, v2⟩ := hcl wr hB.out
   have HCL := Lib.hid hcl
   have HP := Lib.hid hp
   have HP' := Lib.hid hp'
   have n1 : (pz != pz) = false := by simp
   have n2 : (qz != qz) = false := by simp
   have HBD := Lib.hid (fun q => below_drewN hB.out q)
   clear hc hc' hp hp' e0 e1 e2 f0 f1 f2 hcl hB
   go_wp2_with fail
   go_quiet (fail)
   go_wp2_with fail
   go_loopw [6] (fun t wr2 => ∃ j : Nat, j ≤ n ∧ t = .int .i64 j ∧ Hid (Below w.heap.size w wr2)) (fun t _ => n - (intOf t).toNat)
   case atStart => exact ⟨0, Nat.zero_le _, rfl, HBD.out _⟩
   case round =>
    clear u0 u1 u2 v0 v1 v2 HBD
    rename_i wr2
    obtain ⟨j, hj, rfl, hB⟩ := hrel
    obtain ⟨⟨u0, u1, u2⟩, v0, v1, v2⟩ := HCL.out _ hB.out
    by_cases hjl : j < n
    ·obtain ⟨g, p, rfl, hg, hx⟩ := HP.out.2 (by omega)
     obtain ⟨g', p', rfl, hg', hx'⟩ := HP'.out.2 (by omega)
     have x1 := (hB.out.cell (p := ⟨g, p + j, none⟩) hg).trans (hx j hjl)
     have x2 := (hB.out.cell (p := ⟨g', p' + j, none⟩) hg').trans (hx' j hjl)
     generalize xs[j]?.getD 0 = x at *
     have n3 : (x != x) = false := by simp
     have hj1 : (0 : Int) ≤ (j : Int) := by omega
     have hj2 : (j : Int) < (n : Int) := by omega
     have HBD := Lib.hid (fun q => below_drewN hB.out q)
     clear hx hx' hB
     go_wp2_with fail
     go_quiet (fail)
     go_wp2_with fail
     go_roundw
     case rel => exact ⟨j + 1, by omega, by go_num, HBD.out _⟩
     case measure => simp [intOf]; omega
    ·obtain rfl : j = n := by omega
     have HBD := Lib.hid hB.out
     clear hB
     go_wp2_with fail
     go_roundw
     case rel => exact ⟨k + 1, by omega, by go_num, HBD.out⟩
     case measure => simp [intOf]; omega
  ·obtain rfl : k = m := by omega
   go_wp2
   go_ret
   exact ⟨rfl, hB.out⟩

end Go.Proofs.YtjajigkacccdgaaGreat
