/-
A row of rationals that is appended to. The statements of layer 24: level, shares. Merged stacks by their levels; levels laid anew. No statement of the seat is proved here; no conditions beyond those of each theorem.
-/
import Derived.Test.YtnjpojpfiijlfaaGreatGJ
import Derived.Test.YtnjpojpfiijlfaaGreatAR
import Derived.Test.YtnjpojpfiijlfaaGreatGH
import Derived.Test.YtnjpojpfiijlfaaGreatGG
namespace Go.Proofs.YtnjpojpfiijlfaaGreat
set_option linter.unusedVariables false
set_option linter.unusedSimpArgs false
open Go.RowKit
open Wd

/-- The words do not lie in the block of B. -/
def Off (B A : Option Addr) (k : Nat) : Prop := k ≠ 0 → ∃ b o, A = some ⟨b, o, none⟩ ∧ B.map (fun a => a.block) ≠ some b
theorem Off.fresh {base : Nat} {w : World} {A B : Option Addr} {k : Nat} (h : Fresh base w A k) (hB : ∀ b, B.map (fun a => a.block) = some b → b < base) : Off B A k := fun hk => by
  obtain ⟨b, o, rfl, hb, _⟩ := h hk
  exact ⟨b, o, rfl, fun he => by have := hB b he; omega⟩
theorem Wat.kept {w w' : World} {A B : Option Addr} {k : Nat} {l : List Nat} (h : Wat w A k l) (ho : Off B A k) (hk : Kept w w' B) : Wat w' A k l := by
  refine ⟨h.1, h.2.1, fun h0 => ?_⟩
  obtain ⟨b, o, rfl, hlt, hc⟩ := h.2.2 h0
  obtain ⟨b', o', he, hne⟩ := ho h0
  cases he
  refine ⟨b, o, rfl, Nat.lt_of_lt_of_le hlt hk.1, fun j hj => ?_⟩
  exact (World.cell?_of_block (hk.2 b hlt hne)).trans (hc j hj)
theorem Off.same {w : World} {A B B' : Option Addr} {k : Nat} {l : List Nat} (h : Wat w A k l) (ho : Off B A k) (hs : SameOr w B B') : Off B' A k := fun h0 => by
  obtain ⟨b, o, rfl, hlt, _⟩ := h.2.2 h0
  obtain ⟨b', o', he, hne⟩ := ho h0
  cases he
  refine ⟨b, o, rfl, fun hB => ?_⟩
  rcases hs with hs | hs
  · exact hne (hs ▸ hB)
  · rw [hs] at hB
    simp at hB
    omega
theorem Own.blk_lt {base : Nat} {e : TypeId} {size : Nat} {w : World} {A : Option Addr} {n c : Nat} {xs : List Value} (h : Own base e size w A n c xs) : ∀ b, A.map (fun a => a.block) = some b → b < w.heap.size := fun b hb => by
  rcases h.2 with ⟨h6, _⟩ | ⟨g', cap', cur', h6, _, h7, _⟩
  · simp at h6
    rw [h6.1] at hb
    simp at hb
  · simp at h6
    rw [h6.1] at hb
    simp at hb
    rw [← hb]
    exact (Array.getElem?_eq_some_iff.1 h7).1

/-- A rational in memory: its sign, where numerator and denominator lie. -/
abbrev QEnt := Bool × (Option Addr × Nat × Nat) × (Option Addr × Nat × Nat)
def QEnt0 : QEnt := (false, (none, 0, 0), (none, 0, 0))
def qCells (es : List QEnt) : List Value := es.flatMap fun e => [.bool e.1, .slice e.2.1.1 e.2.1.2.1 e.2.1.2.2, .bool false, .slice e.2.2.1 e.2.2.2.1 e.2.2.2.2]
theorem qCells_append (a b : List QEnt) : qCells (a ++ b) = qCells a ++ qCells b := by simp [qCells]
theorem qCells_cons (s : QEnt) (l : List QEnt) : qCells (s :: l) = .bool s.1 :: .slice s.2.1.1 s.2.1.2.1 s.2.1.2.2 :: .bool false :: .slice s.2.2.1 s.2.2.2.1 s.2.2.2.2 :: qCells l := by simp [qCells]
theorem qCells_len (l : List QEnt) : (qCells l).length = l.length * 4 := by
  induction l with
  | nil => rfl
  | cons s l ih => rw [qCells_cons]; simp [ih]; omega
theorem qCells_get : ∀ (l : List QEnt) (j : Nat), j < l.length → (qCells l)[j * 4]? = some (.bool (l[j]?.getD QEnt0).1) ∧ (qCells l)[j * 4 + 1]? = some (.slice (l[j]?.getD QEnt0).2.1.1 (l[j]?.getD QEnt0).2.1.2.1 (l[j]?.getD QEnt0).2.1.2.2) ∧ (qCells l)[j * 4 + 2]? = some (.bool false) ∧ (qCells l)[j * 4 + 3]? = some (.slice (l[j]?.getD QEnt0).2.2.1 (l[j]?.getD QEnt0).2.2.2.1 (l[j]?.getD QEnt0).2.2.2.2)
  | [], j, h => absurd h (by simp)
  | s :: l, 0, _ => by simp [qCells]
  | s :: l, j + 1, h => by
    have ih := qCells_get l j (by simpa using h)
    rw [qCells_cons, show (j + 1) * 4 = j * 4 + 1 + 1 + 1 + 1 by omega, show j * 4 + 1 + 1 + 1 + 1 + 1 = (j * 4 + 1) + 1 + 1 + 1 + 1 by omega, show j * 4 + 1 + 1 + 1 + 1 + 2 = (j * 4 + 2) + 1 + 1 + 1 + 1 by omega, show j * 4 + 1 + 1 + 1 + 1 + 3 = (j * 4 + 3) + 1 + 1 + 1 + 1 by omega]
    simp only [List.getElem?_cons_succ]
    exact ih
theorem qCells_one (l : List QEnt) : ∀ u ∈ qCells l, u.oneCell' = true := by
  intro u hu
  obtain ⟨s, _, h⟩ := List.mem_flatMap.1 hu
  simp at h
  rcases h with rfl | rfl | rfl | rfl <;> rfl

def QEnts (B : Option Addr) (ps : List Rat) (w : World) (i : Nat) (es : List QEnt) : Prop :=
  es.length = i ∧ ∀ j, j < i → (es[j]?.getD QEnt0).1 = decide ((ps[j]?.getD 0).num < 0) ∧ WQ w (ps[j]?.getD 0) (es[j]?.getD QEnt0).2.1.1 (es[j]?.getD QEnt0).2.1.2.1 (es[j]?.getD QEnt0).2.1.2.2 (es[j]?.getD QEnt0).2.2.1 (es[j]?.getD QEnt0).2.2.2.1 (es[j]?.getD QEnt0).2.2.2.2 ∧
    Off B (es[j]?.getD QEnt0).2.1.1 (es[j]?.getD QEnt0).2.1.2.1 ∧ Off B (es[j]?.getD QEnt0).2.2.1 (es[j]?.getD QEnt0).2.2.2.1
section
variable {B : Option Addr} {ps : List Rat} {w w' : World} {i : Nat} {es : List QEnt}
theorem QEnts.start : QEnts B ps w 0 [] := ⟨rfl, fun j hj => absurd hj (by omega)⟩
theorem QEnts.below (h : QEnts B ps w i es) (hb : Below w.heap.size w w') : QEnts B ps w' i es :=
  ⟨h.1, fun j hj => ⟨(h.2 j hj).1, (h.2 j hj).2.1.below hb, (h.2 j hj).2.2⟩⟩
theorem QEnts.app {B' : Option Addr} (h : QEnts B ps w i es) (hk : Kept w w' B) (hs : SameOr w B B') : QEnts B' ps w' i es := by
  refine ⟨h.1, fun j hj => ?_⟩
  obtain ⟨h1, ⟨h2, h3, h4, h5⟩, h6, h7⟩ := h.2 j hj
  exact ⟨h1, ⟨h2, h3, h4.kept h6 hk, h5.kept h7 hk⟩, Off.same h4 h6 hs, Off.same h5 h7 hs⟩
theorem QEnts.snoc {s : Bool} {A A' : Option Addr} {k c k' c' : Nat} (h : QEnts B ps w i es) (h1 : s = decide ((ps[i]?.getD 0).num < 0)) (h2 : WQ w (ps[i]?.getD 0) A k c A' k' c') (h3 : Off B A k) (h4 : Off B A' k') : QEnts B ps w (i + 1) (es ++ [(s, (A, k, c), (A', k', c'))]) := by
  have hl := h.1
  refine ⟨by simp [hl], fun j hj => ?_⟩
  by_cases hji : j < i
  · rw [List.getElem?_append_left (by omega)]
    exact h.2 j hji
  · obtain rfl : j = i := by omega
    rw [List.getElem?_append_right (by omega), hl, Nat.sub_self]
    exact ⟨h1, h2, h3, h4⟩
theorem Own.qs {base : Nat} {e : TypeId} {n c : Nat} (h : Own base e 4 w B n c (qCells es)) (hl : ps.length = n) (he : QEnts B ps w n es) : QsAt w B n ps := by
  refine ⟨hl, fun hn => ?_⟩
  have hel := he.1
  have hcl := qCells_len es
  obtain ⟨g, cap, hv, hb, hlt⟩ := World.ownsRow.form h (by omega)
  simp at hv
  obtain ⟨rfl, rfl⟩ := hv
  refine ⟨g, 0, rfl, hlt, fun j hj => ?_⟩
  obtain ⟨g1, g2, g3, g4⟩ := qCells_get es j (by omega)
  obtain ⟨e1, e2, _, _⟩ := he.2 j hj
  refine ⟨_, _, _, _, _, _, ?_, ?_, ?_, ?_, e2⟩
  · rw [Nat.zero_add, World.ownsRow.cellAt h (j * 4) (by omega), g1, e1]
  · rw [Nat.zero_add, World.ownsRow.cellAt h (j * 4 + 1) (by omega), g2]
  · rw [Nat.zero_add, World.ownsRow.cellAt h (j * 4 + 2) (by omega), g3]
  · rw [Nat.zero_add, World.ownsRow.cellAt h (j * 4 + 3) (by omega), g4]
end
theorem info_q : (Tryz.prog.info? 42).map (fun i => (i.zero, i.size, i.bytes)) = some (some (.agg #[.bool false, .slice none 0 0, .bool false, .slice none 0 0]), 4, 64) := by kernel_rfl

end Go.Proofs.YtnjpojpfiijlfaaGreat

namespace Go.Proofs.YtnjpojpfiijlfaaGreat
set_option linter.unusedVariables false
set_option linter.unusedSimpArgs false
open Go.RowKit
open Wd

set_option maxRecDepth 100000 in
set_option maxHeartbeats 1000000 in
theorem level_any (p q : Int) (A : Option Addr) (n c : Nat) (w : World) :
    Calls Tryz.prog 43 #[.int .i64 p, .int .i64 q, .slice A n c] w fun e w' => e = .returned (.agg #[.int .i64 p, .int .i64 q, .slice A n c]) ∧ Below w.heap.size w w' := by
  go_enter Tryz.func43, Tryz.ntmps43
  have hB := Blk.new w 64 #[.int .i64 p, .int .i64 q, .slice A n c]
  have c0 := hB.cell 0
  have c1 := hB.cell 1
  have c2 := hB.cell 2
  simp at c0 c1 c2
  go_wp2
  refine bodyPost_ret (v := .agg #[.int .i64 p, .int .i64 q, .slice A n c]) ?_ rfl ⟨rfl, (Below.refl _ _).alloc (Nat.le_refl _) _⟩
  simp [results, Tryz.results43, go_sem, c0, c1, c2]

set_option maxRecDepth 100000 in
set_option maxHeartbeats 1000000 in
theorem shares_yes (up : Bool) (A R : Option Addr) (m n c rc : Nat) (lv : List St.Lv) (z cost : Int) (w : World) (h : LvAt w A m n lv) (hv : VL up n lv) (h0 : 0 ≤ z) (h1 : z ≤ totI lv) (hm0 : m ≠ 0) (hr : IsAt w R n (shAll lv n z m)) (hc : cost = costI (lvQ lv) z m) (hcb : Fits cost) (hyb : ∀ y ∈ shAll lv n z m, Fits y) :
    Calls Tryz.prog 79 #[.slice A m c, .int .i64 z, .int .i64 cost, .slice R n rc] w fun e w' => e = .returned (.bool true) ∧ Below w.heap.size w w' := by
  have hzb := (tot_bd lv hv.qty).2
  have hl48 := hv.len
  have hll := h.1
  have T1 := Lib.hid (fun (x : Int) (hx1 : -9223372036854775808 ≤ x) (hx2 : x ≤ 9223372036854775807) W => rint_any x W hx1 hx2)
  have T2 := Lib.hid (fun W (hW : Below w.heap.size w W) aA aA' ak ac ak' ac' hq => share_ok up A m n c lv z aA aA' ak ac ak' ac' W (h.below hW) hv hq h0 h1 hm0)
  have T3 := Lib.hid (fun W (hW : Below w.heap.size w W) aA aA' ak ac ak' ac' hq => kcost_whole up A m n c lv z aA aA' ak ac ak' ac' W (h.below hW) hv hq h0 h1)
  have HX := Lib.hid hr
  have hz1 : -9223372036854775808 ≤ z := by omega
  have hz2 : z ≤ 9223372036854775807 := by omega
  have HZ := Lib.hid (And.intro hz1 hz2)
  have HCO := Lib.hid hc
  have HFC := Lib.hid (And.intro hcb hyb)
  have hn16 := hv.n16
  clear hzb hl48 hll h hv h0 h1 hr hz1 hz2 hc hcb hyb
  go_enter Tryz.func79, Tryz.ntmps79
  go_wp2_with fail
  refine (T1.out z HZ.out.1 HZ.out.2 w).mono ?_
  rintro e w1 ⟨A1, k1, c1, A2, k2, c2, rfl, hk1, hk2, hW1, hW2, -, -, hb1⟩
  go_wp2_with fail
  refine (T2.out w1 hb1 A1 A2 k1 c1 k2 c2 ⟨hk1, hk2, hW1, hW2⟩).mono ?_
  rintro e w2 ⟨g, rfl, hQ2, hg, hb2⟩
  have hB2 : Below w.heap.size w w2 := hb1.trans (hb2.mono hb1.size)
  have HQ2 := Lib.hid hQ2
  clear hb1 hb2 hW1 hW2 hk1 hk2 hQ2
  go_wp2_with fail
  refine (T1.out z HZ.out.1 HZ.out.2 w2).mono ?_
  rintro e w3 ⟨A1, k1, c1, A2, k2, c2, rfl, hk1, hk2, hW1, hW2, -, -, hb3⟩
  have hB3 := hB2.trans (hb3.mono hB2.size)
  have HQ3 := Lib.hid (HQ2.out.at.below hb3)
  clear HQ2 hB2 hb3
  go_wp2_with fail
  refine (T3.out w3 hB3 A1 A2 k1 c1 k2 c2 ⟨hk1, hk2, hW1, hW2⟩).mono ?_
  rintro e w4 ⟨A5, k5, c5, A6, k6, c6, rfl, hC, hb4⟩
  have hB4 := hB3.trans (hb4.mono hB3.size)
  have HQ4 := Lib.hid (HQ3.out.below hb4)
  clear HQ3 hB3 hb4 hW1 hW2 hk1 hk2
  obtain ⟨hC1, hC2, hC3, hC4, -, -⟩ := hC
  generalize hcq : ((costI (lvQ lv) z m : Int) : Rat) = cq at *
  have HC := Lib.hid (show WQ w4 cq A5 k5 c5 A6 k6 c6 from ⟨hC1, hC2, hC3, hC4⟩)
  have HCQ := Lib.hid (show ((cost : Int) : Rat) = cq by rw [HCO.out]; exact hcq)
  clear hC1 hC2 hC3 hC4 hcq HCO T2 T3
  go_wp2_with fail
  have hBx := Blk.new w4 42 #[.bool (decide (cq.num < 0)), .slice A5 k5 c5, .bool false, .slice A6 k6 c6]
  have k4 := (Kp.refl w4).alloc (.cells #[.bool (decide (cq.num < 0)), .slice A5 k5 c5, .bool false, .slice A6 k6 c6] 42)
  have HQ5 := Lib.hid (HQ4.out.below k4)
  have HC5 := Lib.hid (HC.out.below k4)
  have hB5 := hB4.trans (Below.mono k4 hB4.size)
  generalize hbx : w4.heap.size = bx at *
  generalize w4.alloc (.cells #[.bool (decide (cq.num < 0)), .slice A5 k5 c5, .bool false, .slice A6 k6 c6] 42) = W at *
  clear k4 HQ4 HC hB4 hbx
  have HBX := Lib.hid hBx
  have HB5 := Lib.hid hB5
  obtain ⟨ii, hii, hz0, hz1, hz2⟩ := info_parts info_q
  have HI := Lib.hid hii
  have HZ0 := Lib.hid hz0
  have HZ1 := Lib.hid hz1
  have HZ2 := Lib.hid hz2
  clear hBx hB5 hii hz0 hz1 hz2
  generalize hys : shAll lv n z m = ys at *
  go_loopw [13, 14] (fun th t wr => ∃ (i : Nat) (Ah : Option Addr) (ch : Nat) (es : List QEnt), i ≤ n ∧ t = .int .i64 (i : Int) ∧ th = .slice Ah i ch ∧ Hid (Kp W wr ∧ Own W.heap.size 42 4 wr Ah i ch (qCells es) ∧ QEnts Ah (castR ys) wr i es)) (fun _ t _ => n - (intOf t).toNat)
  case atStart => exact ⟨0, none, 0, [], Nat.zero_le _, rfl, rfl, Kp.refl _, Own.nil _ _ _ _, QEnts.start⟩
  case round =>
    obtain ⟨i, Ah, ch, es, hi, rfl, rfl, hR⟩ := hrel
    by_cases hlt : i < n
    · obtain ⟨hB, hO, hE⟩ := hR.out
      obtain ⟨gr, or, rfl, hb, hcl⟩ := HX.out.2 (by omega)
      have hl : ys.length = n := HX.out.1
      have hcell := (hB.cell (p := ⟨gr, or + i, none⟩) (Nat.lt_of_lt_of_le hb HB5.out.size)).trans ((HB5.out.cell (p := ⟨gr, or + i, none⟩) hb).trans (hcl i hlt))
      have hfy := HFC.out.2 _ (getD_mem (d := 0) (show i < ys.length by omega))
      have HEI := Lib.hid (castR_get ys i)
      have i1 : (0 : Int) ≤ (i : Int) := by omega
      have i2 : (i : Int) < (n : Int) := by omega
      generalize ys[i]?.getD 0 = y at *
      have HFY := Lib.hid hfy
      have HR := Lib.hid (And.intro hB (And.intro hO hE))
      clear hcl hB hO hE hR hfy hb
      go_wp2_with fail
      refine (T1.out y (by have := HFY.out.1; omega) (by have := HFY.out.2; omega) wr).mono ?_
      rintro e v1 ⟨A1, k1, c1, A2, k2, c2, rfl, hk1, hk2, hW1, hW2, hF1, hF2, hb1⟩
      generalize ((y : Int) : Rat) = yq at *
      have HW := Lib.hid (And.intro (show WQ v1 yq A1 k1 c1 A2 k2 c2 from ⟨hk1, hk2, hW1, hW2⟩) (And.intro hF1 hF2))
      have HB1 := Lib.hid hb1
      clear hk1 hk2 hW1 hW2 hF1 hF2 hb1 hcell
      have hO1 := (HR.out.2.1.keep HB1.out).keep ((Kp.refl v1).alloc (.cells #[.bool (decide (yq.num < 0)), .slice A1 k1 c1, .bool false, .slice A2 k2 c2] 42))
      have m1 := Blk.new v1 42 #[.bool (decide (yq.num < 0)), .slice A1 k1 c1, .bool false, .slice A2 k2 c2]
      have s1 : Kp W (v1.alloc (.cells #[.bool (decide (yq.num < 0)), .slice A1 k1 c1, .bool false, .slice A2 k2 c2] 42)) := Kp.alloc (Below.trans HR.out.1 (Below.mono HB1.out (Below.size HR.out.1))) _
      go_wp2_with (first
        | (at_builtin; refine wpList_append_at rfl (base := W.heap.size) (e := 42) (size := 4) (bytes := 64) (.tmp 35) (.tmp 41) 46 rfl Tryz.underlying46 HI.out HZ0.out HZ1.out HZ2.out rfl (by decide) (xs := qCells es) (news := [.bool (decide (yq.num < 0)), .slice A1 k1 c1, .bool false, .slice A2 k2 c2]) rfl (by exact hO1) rfl (by exact Blk.src m1 rfl (qCells_one [(decide (yq.num < 0), (A1, k1, c1), (A2, k2, c2))])) (by simp only [maxLen]; omega) (by omega) (by exact Below.size s1) ?_
           intro B2 cb2 w2' hO2 hb2 hk2 hs2
           have HP := Lib.hid (And.intro hO2 (And.intro hb2 (And.intro hk2 hs2)))
           clear hO2 hb2 hk2 hs2))
      have hfin : Kp W w2' ∧ Own W.heap.size 42 4 w2' B2 (i + 1) cb2 (qCells (es ++ [(decide (yq.num < 0), (A1, k1, c1), (A2, k2, c2))])) ∧ QEnts B2 (castR ys) w2' (i + 1) (es ++ [(decide (yq.num < 0), (A1, k1, c1), (A2, k2, c2))]) := by
        obtain ⟨hO2, hb2, hk2, hs2⟩ := HP.out
        refine ⟨Below.trans s1 hb2, by rw [qCells_append]; exact hO2, ?_⟩
        have hlt2 := HR.out.2.1.blk_lt
        have he1 := (HR.out.2.2.below HB1.out).snoc (by rw [HEI.out]) (by rw [HEI.out]; exact HW.out.1) (Off.fresh HW.out.2.1 hlt2) (Off.fresh HW.out.2.2 hlt2)
        exact (he1.below ((Kp.refl v1).alloc _)).app hk2 hs2
      have HF := Lib.hid hfin
      clear hfin HP hO1 m1 s1
      go_wp2
      go_roundw
      case rel => exact ⟨i + 1, B2, cb2, _, by omega, by go_num, rfl, HF.out⟩
      case measure => simp [intOf]; omega
    · obtain rfl : i = n := by omega
      obtain ⟨hB, hO, hE⟩ := hR.out
      have hl : ys.length = i := HX.out.1
      have hys2 := hO.qs (by simp [castR, hl]) hE
      have T4 := Lib.hid (fun Wn (hW : Kp wr Wn) => rrows_yes _ _ i i ch (castR ys) Wn ((HQ5.out.below hB).below hW) (hys2.below hW) (by omega) (by
        intro p hp
        obtain ⟨y, hy, rfl⟩ := List.mem_map.1 hp
        have hf := HFC.out.2 y hy
        unfold Fits at hf
        rw [Rat.num_intCast, Rat.den_intCast]
        have := len_le_two (m := y.natAbs) (by omega)
        exact ⟨by omega, by simp [denW]⟩))
      have T5 : ∀ Wn, Kp wr Wn → Calls Tryz.prog 45 #[.int .i64 cost] Wn (RetQ Wn cq) := fun Wn _ => by
        have := T1.out cost HFC.out.1.1 HFC.out.1.2 Wn
        rwa [HCQ.out] at this
      have T5 := Lib.hid T5
      have hsz : (digs cq.num.natAbs).length ≤ 1000000 ∧ (denW cq.den).length ≤ 1000000 := by
        have hf := HFC.out.1
        unfold Fits at hf
        rw [← HCQ.out, Rat.num_intCast, Rat.den_intCast]
        have := len_le_two (m := cost.natAbs) (by omega)
        exact ⟨by omega, by simp [denW]⟩
      have T6 : ∀ Wn, Kp wr Wn → ∀ B1 j1 d1 B2 j2 d2, WQ Wn cq B1 j1 d1 B2 j2 d2 → Calls Tryz.prog 42 #[.agg #[.bool (decide (cq.num < 0)), .slice A5 k5 c5, .bool false, .slice A6 k6 c6], .agg #[.bool (decide (cq.num < 0)), .slice B1 j1 d1, .bool false, .slice B2 j2 d2]] Wn fun e w' => e = .returned (.bool true) ∧ Below Wn.heap.size Wn w' := fun Wn hW B1 j1 d1 B2 j2 d2 hq => by
        have hc := (HC5.out.below hB).below hW
        obtain rfl : j1 = k5 := by rw [hq.2.2.1.len, hc.2.2.1.len]
        obtain rfl : j2 = k6 := by rw [hq.2.2.2.len, hc.2.2.2.len]
        exact ris_yes cq A5 B1 A6 B2 j1 c5 j2 c6 d1 d2 Wn hc hq (by rw [hc.2.2.1.len]; exact hsz.1) (by rw [hc.2.2.2.len]; exact hsz.2)
      have T6 := Lib.hid T6
      have hbx := HBX.out.below hB HBX.out.lt
      have HBW := Lib.hid (show Below w.heap.size w wr from HB5.out.trans (Below.mono hB HB5.out.size))
      have s5 := Kp.refl wr
      clear hR hB hO hE hys2 hsz HBX HB5 HC5 HQ5 T1
      go_wp2_with fail
      have hS : ∀ w', Kp wr w' → (w'.cell? ⟨bx, 0, none⟩ = some (.bool (decide (cq.num < 0))) ∧ w'.cell? ⟨bx, 1, none⟩ = some (.slice A5 k5 c5) ∧ w'.cell? ⟨bx, 2, none⟩ = some (.bool false) ∧ w'.cell? ⟨bx, 3, none⟩ = some (.slice A6 k6 c6)) ∧ Kp wr w' := fun w' hk => ⟨⟨(hk.blk hbx).cell 0, (hk.blk hbx).cell 1, (hk.blk hbx).cell 2, (hk.blk hbx).cell 3⟩, hk⟩
      have HS := Lib.hid hS
      clear hS
      go_region_held3 (fun w' => (w'.cell? ⟨bx, 0, none⟩ = some (.bool (decide (cq.num < 0))) ∧ w'.cell? ⟨bx, 1, none⟩ = some (.slice A5 k5 c5) ∧ w'.cell? ⟨bx, 2, none⟩ = some (.bool false) ∧ w'.cell? ⟨bx, 3, none⟩ = some (.slice A6 k6 c6)) ∧ Kp wr w')
        (first | (with_reducible refine HS.out _ ?_; with_reducible assumption) | (with_reducible refine HS.out _ (Kp.drew ?_); with_reducible assumption) | (with_reducible refine' HS.out _ (Kp.drew (And.right ?_)); rotate_left; with_reducible assumption))
        (first
          | (go_at_call 45; have hk := And.right ‹_ ∧ Kp wr _›; refine (T5.out _ hk).mono ?_; rintro e v1 ⟨B1, j1, d1, B2, j2, d2, rfl, hj1, hj2, hV1, hV2, -, -, hb1⟩; have hr1 := hk.trans hb1; have HV := Lib.hid (show WQ v1 cq B1 j1 d1 B2 j2 d2 from ⟨hj1, hj2, hV1, hV2⟩); clear hb1 hj1 hj2 hV1 hV2)
          | (go_at_call 42; have hk := And.right ‹_ ∧ Kp wr _›; refine (T6.out _ hk _ _ _ _ _ _ HV.out).mono ?_; rintro e v2 ⟨rfl, hb2⟩; have hr2 := hk.trans hb2; clear hb2)
          | (go_at_call 41; have hk := And.right ‹_ ∧ Kp wr _›; refine (T4.out _ hk).mono ?_; rintro e v3 ⟨rfl, hb3⟩; have hr3 := hk.trans hb3; clear hb3))
      have HF := Lib.hid (HBW.out.trans (Below.mono hr3 HBW.out.size))
      clear hr1 hr2 hr3
      go_wp2
      go_ret
      exact ⟨rfl, HF.out⟩

end Go.Proofs.YtnjpojpfiijlfaaGreat

namespace Go.Proofs.YtnjpojpfiijlfaaGreat
set_option linter.unusedVariables false
set_option linter.unusedSimpArgs false
open Go.RowKit
open Wd


theorem merge_offers_lv (A : Option Addr) (n c : Nat) (ls : List (List (Int × Int))) (lv : List St.Lv) (w : World) (h : CsAt w A n ls) (hs : ∀ l ∈ ls, l.length ≤ 1000000000000) (hc : (ckC true ls).2 = 0) (hl : St.IsLv true n (St.tri 0 ls) lv) :
    Calls Tryz.prog 24 #[.slice A n c] w fun e w' => ∃ mg cap, e = .returned (.tuple #[.slice (some ⟨mg, 0, none⟩) lv.length cap, .int .i64 0, .int .i64 0]) ∧ LvAt w' (some ⟨mg, 0, none⟩) lv.length n lv ∧ VL true n lv ∧ Below w.heap.size w w' := by
  refine (merge_offers_ok A n c ls w h hs hc).mono ?_
  rintro e w' ⟨D, mg, cap, rfl, h1, h2, h3, h4⟩
  have he : lvOf n (St.tri 0 ls) D = lv := (lvOf_is h1 h2).only hl
  have hlen : lv.length = D.length := by rw [← he]; simp [lvOf]
  refine ⟨mg, cap, by rw [hlen], ?_, ?_, h4⟩
  · have := h3.at
    rw [he] at this
    rwa [hlen]
  · have hn := h.1
    subst hn
    exact lv_valid hc hl

theorem merge_bids_lv (A : Option Addr) (n c : Nat) (ls : List (List (Int × Int))) (lv : List St.Lv) (w : World) (h : CsAt w A n ls) (hs : ∀ l ∈ ls, l.length ≤ 1000000000000) (hc : (ckC false ls).2 = 0) (hl : St.IsLv false n (St.tri 0 ls) lv) :
    Calls Tryz.prog 25 #[.slice A n c] w fun e w' => ∃ mg cap, e = .returned (.tuple #[.slice (some ⟨mg, 0, none⟩) lv.length cap, .int .i64 0, .int .i64 0]) ∧ LvAt w' (some ⟨mg, 0, none⟩) lv.length n lv ∧ VL false n lv ∧ Below w.heap.size w w' := by
  refine (merge_bids_ok A n c ls w h hs hc).mono ?_
  rintro e w' ⟨D, mg, cap, rfl, h1, h2, h3, h4⟩
  have he : lvOf n (St.tri 0 ls) D = lv := (lvOf_is h1 h2).only hl
  have hlen : lv.length = D.length := by rw [← he]; simp [lvOf]
  refine ⟨mg, cap, by rw [hlen], ?_, ?_, h4⟩
  · have := h3.at
    rw [he] at this
    rwa [hlen]
  · have hn := h.1
    subst hn
    exact lv_valid hc hl

theorem IsAt.lit {w : World} {g : Nat} {xs : List Int} {n : Nat} {cs : Array Value} (h : Blk w g 2 cs) (hc : cs = (xs.map (Value.int .i64)).toArray) (hl : xs.length = n) : IsAt w (some ⟨g, 0, none⟩) n xs := by
  subst hc
  exact IRow.at (show IRow w g xs from h) hl
theorem CsAt.two {w : World} {g : Nat} {t : TypeId} {A1 A2 : Option Addr} {n1 c1 n2 c2 : Nat} {l1 l2 : List (Int × Int)} (h : Blk w g t #[.slice A1 n1 c1, .slice A2 n2 c2]) (h1 : StAt w A1 n1 l1) (h2 : StAt w A2 n2 l2) : CsAt w (some ⟨g, 0, none⟩) 2 [l1, l2] := by
  refine ⟨rfl, fun _ => ⟨g, 0, rfl, h.lt, fun j hj => ?_⟩⟩
  obtain rfl | rfl : j = 0 ∨ j = 1 := by omega
  · exact ⟨A1, n1, c1, h.cell 0, h1⟩
  · exact ⟨A2, n2, c2, h.cell 1, h2⟩
theorem LvAt.two {w : World} {g n : Nat} {t : TypeId} {p1 q1 p2 q2 : Int} {A1 A2 : Option Addr} {c1 c2 : Nat} {x1 x2 : List Int} (h : Blk w g t #[.int .i64 p1, .int .i64 q1, .slice A1 n c1, .int .i64 p2, .int .i64 q2, .slice A2 n c2]) (h1 : IsAt w A1 n x1) (h2 : IsAt w A2 n x2) :
    LvAt w (some ⟨g, 0, none⟩) 2 n [(p1, q1, x1), (p2, q2, x2)] := by
  refine ⟨rfl, fun _ => ⟨g, 0, rfl, h.lt, fun j hj => ?_⟩⟩
  obtain rfl | rfl : j = 0 ∨ j = 1 := by omega
  · exact ⟨A1, c1, ⟨h.cell 0, h.cell 1, h.cell 2⟩, h1⟩
  · exact ⟨A2, c2, ⟨h.cell 3, h.cell 4, h.cell 5⟩, h2⟩
theorem LvAt.three {w : World} {g n : Nat} {t : TypeId} {p1 q1 p2 q2 p3 q3 : Int} {A1 A2 A3 : Option Addr} {c1 c2 c3 : Nat} {x1 x2 x3 : List Int} (h : Blk w g t #[.int .i64 p1, .int .i64 q1, .slice A1 n c1, .int .i64 p2, .int .i64 q2, .slice A2 n c2, .int .i64 p3, .int .i64 q3, .slice A3 n c3]) (h1 : IsAt w A1 n x1) (h2 : IsAt w A2 n x2) (h3 : IsAt w A3 n x3) :
    LvAt w (some ⟨g, 0, none⟩) 3 n [(p1, q1, x1), (p2, q2, x2), (p3, q3, x3)] := by
  refine ⟨rfl, fun _ => ⟨g, 0, rfl, h.lt, fun j hj => ?_⟩⟩
  obtain rfl | rfl | rfl : j = 0 ∨ j = 1 ∨ j = 2 := by omega
  · exact ⟨A1, c1, ⟨h.cell 0, h.cell 1, h.cell 2⟩, h1⟩
  · exact ⟨A2, c2, ⟨h.cell 3, h.cell 4, h.cell 5⟩, h2⟩
  · exact ⟨A3, c3, ⟨h.cell 6, h.cell 7, h.cell 8⟩, h3⟩

def exO : List St.Lv := [(1, 5, [5, 0]), (2, 3, [0, 3]), (3, 7, [4, 3])]
def exB : List St.Lv := [(9, 7, [4, 3]), (2, 4, [4, 0])]
theorem exO_is : St.IsLv true 2 (St.tri 0 [[(5, 1), (4, 3)], [(3, 2), (3, 3)]]) exO := by
  refine ⟨by simp [exO, St.ltU], fun p => ?_, ?_⟩
  · simp [exO, St.tri]
    omega
  · intro x hx
    simp [exO] at hx
    rcases hx with rfl | rfl | rfl <;> decide
theorem exB_is : St.IsLv false 2 (St.tri 0 [[(4, 9), (4, 2)], [(3, 9)]]) exB := by
  refine ⟨by simp [exB, St.ltU], fun p => ?_, ?_⟩
  · simp [exB, St.tri]
    omega
  · intro x hx
    simp [exB] at hx
    rcases hx with rfl | rfl <;> decide
theorem exO_ck : (ckC true [[(5, 1), (4, 3)], [(3, 2), (3, 3)]]).2 = 0 := by decide
theorem exB_ck : (ckC false [[(4, 9), (4, 2)], [(3, 9)]]).2 = 0 := by decide
theorem exO_tot : totI exO = 15 := by decide
theorem exB_tot : totI exB = 11 := by decide
theorem exO_s10 : shAll exO 2 10 3 = [5, 5] := by decide
theorem exO_s12 : shAll exO 2 12 3 = [6, 6] := by decide
theorem exB_s5 : shAll exB 2 5 2 = [2, 3] := by decide
theorem exO_c10 : costI (lvQ exO) 10 3 = 17 := by decide
theorem exO_c12 : costI (lvQ exO) 12 3 = 23 := by decide
theorem exB_c5 : costI (lvQ exB) 5 2 = 45 := by decide
theorem prs_a : prs [5, 1, 4, 3] 2 = [(5, 1), (4, 3)] := rfl
theorem prs_b : prs [3, 2, 3, 3] 2 = [(3, 2), (3, 3)] := rfl
theorem prs_c : prs [4, 9, 4, 2] 2 = [(4, 9), (4, 2)] := rfl
theorem prs_d : prs [3, 9] 1 = [(3, 9)] := rfl
theorem fits_lit {xs : List Int} (h : ∀ x ∈ xs, -100 ≤ x ∧ x ≤ 100) : ∀ i : Nat, Fits (xs[i]?.getD 0) := fun i => by
  by_cases hi : i < xs.length
  · have := h _ (getD_mem (d := 0) hi)
    unfold Fits
    omega
  · rw [List.getElem?_eq_none (by omega)]
    unfold Fits
    simp

end Go.Proofs.YtnjpojpfiijlfaaGreat
