/-
The units and hours of the examples of package commit. No statement of the seat is proved here; no conditions beyond those of each theorem.
-/
import Derived.Test.YtdoeejcmaeefcaaGreatHY
namespace Go.Proofs.YtdoeejcmaeefcaaGreat
set_option linter.unusedVariables false
set_option linter.unusedSimpArgs false
open Go.RowKit
open Wd
open Cm

/-- The units of the examples. -/
def cexU : List Un := [⟨0, 2, [(5, 1), (4, 3)], 2, 2, 5, 3, 0, -2⟩, ⟨0, 0, [(6, 4)], 1, 1, 1, 0, 0, 1⟩]
set_option maxHeartbeats 2000000 in
theorem ex29_any (w : World) : Calls Tryz.prog 25 #[] w fun e w' => ∃ g, e = .returned (.slice (some ⟨g, 0, none⟩) 2 2) ∧ UsAt w' (some ⟨g, 0, none⟩) 2 cexU ∧ Below w.heap.size w w' := by
  go_enter Tryz.func25, Tryz.ntmps25
  go_wp2
  have hB0 := ((((Blk.new w 83 #[.int .i64 5, .int .i64 1, .int .i64 4, .int .i64 3]).alloc (.cells #[.int .i64 0, .int .i64 2, .slice (some ⟨w.heap.size, 0, none⟩) 2 2, .int .i64 2, .int .i64 2, .int .i64 5, .int .i64 3, .int .i64 0, .int .i64 (-2)] 39)).alloc (.cells #[.int .i64 6, .int .i64 4] 83)).alloc (.cells #[.int .i64 0, .int .i64 0, .slice (some ⟨w.heap.size + 1 + 1, 0, none⟩) 1 1, .int .i64 1, .int .i64 1, .int .i64 1, .int .i64 0, .int .i64 0, .int .i64 1] 39)).alloc (.cells #[.int .i64 0, .int .i64 2, .slice (some ⟨w.heap.size, 0, none⟩) 2 2, .int .i64 2, .int .i64 2, .int .i64 5, .int .i64 3, .int .i64 0, .int .i64 (-2), .int .i64 0, .int .i64 0, .slice (some ⟨w.heap.size + 1 + 1, 0, none⟩) 1 1, .int .i64 1, .int .i64 1, .int .i64 1, .int .i64 0, .int .i64 0, .int .i64 1] 39)
  have hB1 := (((Blk.new1 w (.cells #[.int .i64 5, .int .i64 1, .int .i64 4, .int .i64 3] 83) 39 #[.int .i64 0, .int .i64 2, .slice (some ⟨w.heap.size, 0, none⟩) 2 2, .int .i64 2, .int .i64 2, .int .i64 5, .int .i64 3, .int .i64 0, .int .i64 (-2)]).alloc (.cells #[.int .i64 6, .int .i64 4] 83)).alloc (.cells #[.int .i64 0, .int .i64 0, .slice (some ⟨w.heap.size + 1 + 1, 0, none⟩) 1 1, .int .i64 1, .int .i64 1, .int .i64 1, .int .i64 0, .int .i64 0, .int .i64 1] 39)).alloc (.cells #[.int .i64 0, .int .i64 2, .slice (some ⟨w.heap.size, 0, none⟩) 2 2, .int .i64 2, .int .i64 2, .int .i64 5, .int .i64 3, .int .i64 0, .int .i64 (-2), .int .i64 0, .int .i64 0, .slice (some ⟨w.heap.size + 1 + 1, 0, none⟩) 1 1, .int .i64 1, .int .i64 1, .int .i64 1, .int .i64 0, .int .i64 0, .int .i64 1] 39)
  have hB2 := ((Blk.new2 w (.cells #[.int .i64 5, .int .i64 1, .int .i64 4, .int .i64 3] 83) (.cells #[.int .i64 0, .int .i64 2, .slice (some ⟨w.heap.size, 0, none⟩) 2 2, .int .i64 2, .int .i64 2, .int .i64 5, .int .i64 3, .int .i64 0, .int .i64 (-2)] 39) 83 #[.int .i64 6, .int .i64 4]).alloc (.cells #[.int .i64 0, .int .i64 0, .slice (some ⟨w.heap.size + 1 + 1, 0, none⟩) 1 1, .int .i64 1, .int .i64 1, .int .i64 1, .int .i64 0, .int .i64 0, .int .i64 1] 39)).alloc (.cells #[.int .i64 0, .int .i64 2, .slice (some ⟨w.heap.size, 0, none⟩) 2 2, .int .i64 2, .int .i64 2, .int .i64 5, .int .i64 3, .int .i64 0, .int .i64 (-2), .int .i64 0, .int .i64 0, .slice (some ⟨w.heap.size + 1 + 1, 0, none⟩) 1 1, .int .i64 1, .int .i64 1, .int .i64 1, .int .i64 0, .int .i64 0, .int .i64 1] 39)
  have hB3 := (Blk.new3 w (.cells #[.int .i64 5, .int .i64 1, .int .i64 4, .int .i64 3] 83) (.cells #[.int .i64 0, .int .i64 2, .slice (some ⟨w.heap.size, 0, none⟩) 2 2, .int .i64 2, .int .i64 2, .int .i64 5, .int .i64 3, .int .i64 0, .int .i64 (-2)] 39) (.cells #[.int .i64 6, .int .i64 4] 83) 39 #[.int .i64 0, .int .i64 0, .slice (some ⟨w.heap.size + 1 + 1, 0, none⟩) 1 1, .int .i64 1, .int .i64 1, .int .i64 1, .int .i64 0, .int .i64 0, .int .i64 1]).alloc (.cells #[.int .i64 0, .int .i64 2, .slice (some ⟨w.heap.size, 0, none⟩) 2 2, .int .i64 2, .int .i64 2, .int .i64 5, .int .i64 3, .int .i64 0, .int .i64 (-2), .int .i64 0, .int .i64 0, .slice (some ⟨w.heap.size + 1 + 1, 0, none⟩) 1 1, .int .i64 1, .int .i64 1, .int .i64 1, .int .i64 0, .int .i64 0, .int .i64 1] 39)
  have hB4 := Blk.new4 w (.cells #[.int .i64 5, .int .i64 1, .int .i64 4, .int .i64 3] 83) (.cells #[.int .i64 0, .int .i64 2, .slice (some ⟨w.heap.size, 0, none⟩) 2 2, .int .i64 2, .int .i64 2, .int .i64 5, .int .i64 3, .int .i64 0, .int .i64 (-2)] 39) (.cells #[.int .i64 6, .int .i64 4] 83) (.cells #[.int .i64 0, .int .i64 0, .slice (some ⟨w.heap.size + 1 + 1, 0, none⟩) 1 1, .int .i64 1, .int .i64 1, .int .i64 1, .int .i64 0, .int .i64 0, .int .i64 1] 39) 39 #[.int .i64 0, .int .i64 2, .slice (some ⟨w.heap.size, 0, none⟩) 2 2, .int .i64 2, .int .i64 2, .int .i64 5, .int .i64 3, .int .i64 0, .int .i64 (-2), .int .i64 0, .int .i64 0, .slice (some ⟨w.heap.size + 1 + 1, 0, none⟩) 1 1, .int .i64 1, .int .i64 1, .int .i64 1, .int .i64 0, .int .i64 0, .int .i64 1]
  have hBW : Below w.heap.size w (((((w.alloc (.cells #[.int .i64 5, .int .i64 1, .int .i64 4, .int .i64 3] 83)).alloc (.cells #[.int .i64 0, .int .i64 2, .slice (some ⟨w.heap.size, 0, none⟩) 2 2, .int .i64 2, .int .i64 2, .int .i64 5, .int .i64 3, .int .i64 0, .int .i64 (-2)] 39)).alloc (.cells #[.int .i64 6, .int .i64 4] 83)).alloc (.cells #[.int .i64 0, .int .i64 0, .slice (some ⟨w.heap.size + 1 + 1, 0, none⟩) 1 1, .int .i64 1, .int .i64 1, .int .i64 1, .int .i64 0, .int .i64 0, .int .i64 1] 39)).alloc (.cells #[.int .i64 0, .int .i64 2, .slice (some ⟨w.heap.size, 0, none⟩) 2 2, .int .i64 2, .int .i64 2, .int .i64 5, .int .i64 3, .int .i64 0, .int .i64 (-2), .int .i64 0, .int .i64 0, .slice (some ⟨w.heap.size + 1 + 1, 0, none⟩) 1 1, .int .i64 1, .int .i64 1, .int .i64 1, .int .i64 0, .int .i64 0, .int .i64 1] 39)) := (((((Below.refl _ _).alloc (Nat.le_refl _) _).alloc (by simp only [World.size_alloc]; omega) _).alloc (by simp only [World.size_alloc]; omega) _).alloc (by simp only [World.size_alloc]; omega) _).alloc (by simp only [World.size_alloc]; omega) _
  have hsz : (((((w.alloc (.cells #[.int .i64 5, .int .i64 1, .int .i64 4, .int .i64 3] 83)).alloc (.cells #[.int .i64 0, .int .i64 2, .slice (some ⟨w.heap.size, 0, none⟩) 2 2, .int .i64 2, .int .i64 2, .int .i64 5, .int .i64 3, .int .i64 0, .int .i64 (-2)] 39)).alloc (.cells #[.int .i64 6, .int .i64 4] 83)).alloc (.cells #[.int .i64 0, .int .i64 0, .slice (some ⟨w.heap.size + 1 + 1, 0, none⟩) 1 1, .int .i64 1, .int .i64 1, .int .i64 1, .int .i64 0, .int .i64 0, .int .i64 1] 39)).alloc (.cells #[.int .i64 0, .int .i64 2, .slice (some ⟨w.heap.size, 0, none⟩) 2 2, .int .i64 2, .int .i64 2, .int .i64 5, .int .i64 3, .int .i64 0, .int .i64 (-2), .int .i64 0, .int .i64 0, .slice (some ⟨w.heap.size + 1 + 1, 0, none⟩) 1 1, .int .i64 1, .int .i64 1, .int .i64 1, .int .i64 0, .int .i64 0, .int .i64 1] 39)).heap.size = w.heap.size + 1 + 1 + 1 + 1 + 1 := by simp
  generalize ((((w.alloc (.cells #[.int .i64 5, .int .i64 1, .int .i64 4, .int .i64 3] 83)).alloc (.cells #[.int .i64 0, .int .i64 2, .slice (some ⟨w.heap.size, 0, none⟩) 2 2, .int .i64 2, .int .i64 2, .int .i64 5, .int .i64 3, .int .i64 0, .int .i64 (-2)] 39)).alloc (.cells #[.int .i64 6, .int .i64 4] 83)).alloc (.cells #[.int .i64 0, .int .i64 0, .slice (some ⟨w.heap.size + 1 + 1, 0, none⟩) 1 1, .int .i64 1, .int .i64 1, .int .i64 1, .int .i64 0, .int .i64 0, .int .i64 1] 39)).alloc (.cells #[.int .i64 0, .int .i64 2, .slice (some ⟨w.heap.size, 0, none⟩) 2 2, .int .i64 2, .int .i64 2, .int .i64 5, .int .i64 3, .int .i64 0, .int .i64 (-2), .int .i64 0, .int .i64 0, .slice (some ⟨w.heap.size + 1 + 1, 0, none⟩) 1 1, .int .i64 1, .int .i64 1, .int .i64 1, .int .i64 0, .int .i64 0, .int .i64 1] 39) = W at *
  have HSZ := Lib.hid hsz
  clear hsz
  go_ret
  have s1 : StAt W (some ⟨w.heap.size, 0, none⟩) 2 [(5, 1), (4, 3)] := ⟨rfl, by intro s hs; simp at hs; rcases hs with rfl | rfl <;> (unfold Fits; omega), fun _ => ⟨_, 0, rfl, hB0.lt, fun j hj => by
    match j, hj with
    | 0, _ => exact ⟨hB0.cell 0, hB0.cell 1⟩
    | 1, _ => exact ⟨hB0.cell 2, hB0.cell 3⟩⟩⟩
  have s2 : StAt W (some ⟨w.heap.size + 1 + 1, 0, none⟩) 1 [(6, 4)] := ⟨rfl, by intro s hs; simp at hs; subst hs; unfold Fits; omega, fun _ => ⟨_, 0, rfl, hB2.lt, fun j hj => by
    match j, hj with
    | 0, _ => exact ⟨hB2.cell 0, hB2.cell 1⟩⟩⟩
  refine ⟨w.heap.size + 1 + 1 + 1 + 1, rfl, ⟨rfl, fun _ => ⟨_, 0, rfl, hB4.lt, fun j hj => ?_⟩⟩, hBW⟩
  match j, hj with
  | 0, _ => exact ⟨_, 2, 2, ⟨hB4.cell 0, hB4.cell 1, hB4.cell 2, hB4.cell 3, hB4.cell 4, hB4.cell 5, hB4.cell 6, hB4.cell 7, hB4.cell 8⟩, s1, by omega⟩
  | 1, _ => exact ⟨_, 1, 1, ⟨hB4.cell 9, hB4.cell 10, hB4.cell 11, hB4.cell 12, hB4.cell 13, hB4.cell 14, hB4.cell 15, hB4.cell 16, hB4.cell 17⟩, s2, by omega⟩

/-- Hours with the given firm demands. -/
def firmH (l : List Int) : List Hr := l.map fun x => ⟨[(0, [(x, 1000000), (9, 50)])], 0⟩
def hrC (g : Nat) : List Value := [.slice (some ⟨g, 0, none⟩) 1 1, .slice none 0 0, .int .i64 0]
theorem hrC_len (vs : List Nat) : (vs.flatMap hrC).length = vs.length * 3 := by
  induction vs with
  | nil => rfl
  | cons g r ih => rw [List.flatMap_cons, List.length_append, ih, List.length_cons]; simp [hrC]; omega
theorem hrC_get : ∀ (vs : List Nat) (j : Nat), j < vs.length → (vs.flatMap hrC)[j * 3]? = some (.slice (some ⟨vs[j]?.getD 0, 0, none⟩) 1 1) ∧ (vs.flatMap hrC)[j * 3 + 1]? = some (.slice none 0 0) ∧ (vs.flatMap hrC)[j * 3 + 2]? = some (.int .i64 0)
  | [], j, h => by simp at h
  | g :: r, 0, _ => by simp [hrC]
  | g :: r, j + 1, h => by
    have ih := hrC_get r j (by simpa using h)
    have e : ∀ k, ((g :: r).flatMap hrC)[(j + 1) * 3 + k]? = (r.flatMap hrC)[j * 3 + k]? := fun k => by
      rw [List.flatMap_cons, List.getElem?_append_right (by simp [hrC]; omega)]
      congr 1
      simp [hrC]
      omega
    refine ⟨?_, ?_, ?_⟩
    · have := e 0
      simp only [Nat.add_zero] at this
      rw [this, ih.1]
      rfl
    · rw [e 1]; exact ih.2.1
    · rw [e 2]; exact ih.2.2
theorem hrC_one (g : Nat) : ∀ u ∈ (#[.slice (some ⟨g, 0, none⟩) 1 1, .slice none 0 0, .int .i64 0] : Array Value).toList, u.oneCell' = true := by
  intro u hu
  simp at hu
  rcases hu with rfl | rfl | rfl <;> rfl
/-- The hours that firm has laid. -/
def FmR (w : World) (l : List Int) (i : Nat) (B : Option Addr) (cb : Nat) (wr : World) : Prop :=
  Below w.heap.size w wr ∧ ∃ vs : List Nat, vs.length = i ∧ Own w.heap.size 46 3 wr B i cb (vs.flatMap hrC) ∧ ∀ j, j < i → ∃ s, Blk wr (vs[j]?.getD 0) 54 #[.int .i64 0, .slice (some ⟨s, 0, none⟩) 2 2] ∧ Blk wr s 83 #[.int .i64 (l[j]?.getD 0), .int .i64 1000000, .int .i64 9, .int .i64 50]
theorem Blk.own {w w' : World} {g : Nat} {t e : TypeId} {cs : Array Value} {base size n c : Nat} {A : Option Addr} {xs : List Value} (h : Blk w g t cs) (ho : Own base e size w A n c xs) (hk : Kept w w' A) (ht : t ≠ e) : Blk w' g t cs := by
  refine hk.blk h fun hA => ?_
  rcases ho.2 with ⟨h8, _⟩ | ⟨g', cap', cur', h8, _, h9, _⟩
  · simp at h8
    rw [h8.1] at hA
    simp at hA
  · simp at h8
    rw [h8.1] at hA
    simp at hA
    subst hA
    unfold Blk at h
    rw [h9] at h
    simp at h
    exact ht h.2.symm
theorem info_hour : (Tryz.prog.info? 46).map (fun i => (i.zero, i.size, i.bytes)) = some (some (.agg #[.slice none 0 0, .slice none 0 0, .int .i64 0]), 3, 56) := by kernel_rfl
theorem FmR.at {w wr : World} {l : List Int} {B : Option Addr} {cb n : Nat} (h : FmR w l n B cb wr) (hl : l.length = n) (hf : ∀ x ∈ l, Fits x) : HsAt wr B n (firmH l) := by
  obtain ⟨_, vs, hv, ho, hs⟩ := h
  refine ⟨by simp [firmH, hl], fun hn => ?_⟩
  obtain ⟨g, cap, hv2, hb, hlt⟩ := World.ownsRow.form ho (by omega)
  simp at hv2
  obtain ⟨rfl, rfl⟩ := hv2
  refine ⟨g, 0, rfl, hlt, fun j hj => ?_⟩
  obtain ⟨s, b1, b2⟩ := hs j hj
  obtain ⟨e1, e2, e3⟩ := hrC_get vs j (by omega)
  have hle := hrC_len vs
  have hjl : j < l.length := by omega
  have e : (firmH l)[j]?.getD Hr0 = ⟨[(0, [(l[j]?.getD 0, 1000000), (9, 50)])], 0⟩ := by simp [firmH, hjl]
  rw [e, Nat.zero_add]
  have hfx := hf _ (gmem (d := 0) hjl)
  refine ⟨some ⟨vs[j]?.getD 0, 0, none⟩, 1, 1, none, 0, 0, ?_, ?_, ?_, rfl, fun _ => ⟨_, 0, rfl, b1.lt, fun q hq => ?_⟩⟩
  · rw [World.ownsRow.cellAt ho (j * 3) (by omega)]; exact e1
  · rw [World.ownsRow.cellAt ho (j * 3 + 1) (by omega)]; exact e2
  · rw [World.ownsRow.cellAt ho (j * 3 + 2) (by omega)]; exact e3
  · match q, hq with
    | 0, _ =>
      refine ⟨_, 2, 2, b1.cell 0, b1.cell 1, rfl, ?_, fun _ => ⟨_, 0, rfl, b2.lt, fun q hq => ?_⟩⟩
      · intro x hx
        simp at hx
        rcases hx with rfl | rfl
        · exact ⟨hfx, by unfold Fits; omega⟩
        · unfold Fits; omega
      · match q, hq with
        | 0, _ => exact ⟨b2.cell 0, b2.cell 1⟩
        | 1, _ => exact ⟨b2.cell 2, b2.cell 3⟩

set_option maxRecDepth 100000 in
set_option maxHeartbeats 4000000 in
theorem firm29_any (A : Option Addr) (n c : Nat) (l : List Int) (w : World) (h : IsAt w A n l) (hm : n ≤ 1000) (hf : ∀ x ∈ l, Fits x) :
    Calls Tryz.prog 27 #[.slice A n c] w fun e w' => ∃ B cb, e = .returned (.slice B n cb) ∧ HsAt w' B n (firmH l) ∧ Below w.heap.size w w' := by
  have HX := Lib.hid h
  have HF := Lib.hid hf
  obtain ⟨ii, hii, hz0, hz1, hz2⟩ := info_parts info_hour
  have HI := Lib.hid hii
  have HZ0 := Lib.hid hz0
  have HZ1 := Lib.hid hz1
  have HZ2 := Lib.hid hz2
  clear h hf hii hz0 hz1 hz2
  go_enter Tryz.func27, Tryz.ntmps27
  go_wp2_with fail
  go_loopw [3, 4] (fun t3 t4 wr => ∃ (i : Nat) (B : Option Addr) (cb : Nat), i ≤ n ∧ t4 = .int .i64 i ∧ t3 = .slice B i cb ∧ Hid (FmR w l i B cb wr)) (fun _ t _ => n - (intOf t).toNat)
  case atStart => exact ⟨0, none, 0, Nat.zero_le _, rfl, rfl, Below.refl _ _, [], rfl, Own.nil _ _ _ _, fun j hj => absurd hj (by omega)⟩
  case round =>
    obtain ⟨i, B, cb, hi, rfl, rfl, hR⟩ := hrel
    obtain ⟨wu, rfl⟩ : ∃ v, v = wr := ⟨_, rfl⟩
    by_cases hlt : i < n
    · obtain ⟨b, o, rfl, hb, hc⟩ := HX.out.2 (by omega)
      have y0 := (hR.out.1.cell (p := ⟨b, o + i, none⟩) hb).trans (hc i hlt)
      obtain ⟨q0, vs, q1, q2, q3⟩ := id hR.out
      have HQ := Lib.hid (And.intro q0 (And.intro q1 (And.intro q2 q3)))
      have HXI := Lib.hid (show l[i]?.getD 0 = l[i]?.getD 0 from rfl)
      generalize hxe : l[i]?.getD 0 = x at *
      have HXE := Lib.hid hxe
      have i1 : (0 : Int) ≤ (i : Int) := by omega
      have i2 : (i : Int) < (n : Int) := by omega
      have k1 := (Kp.refl wu).alloc (.cells #[.int .i64 x, .int .i64 1000000, .int .i64 9, .int .i64 50] 83)
      have k2 := k1.alloc (.cells #[.int .i64 0, .slice (some ⟨wu.heap.size, 0, none⟩) 2 2] 54)
      have k3 := k2.alloc (.cells #[.slice (some ⟨wu.heap.size + 1, 0, none⟩) 1 1, .slice none 0 0, .int .i64 0] 46)
      have m0 := ((Blk.new wu 83 #[.int .i64 x, .int .i64 1000000, .int .i64 9, .int .i64 50]).alloc (.cells #[.int .i64 0, .slice (some ⟨wu.heap.size, 0, none⟩) 2 2] 54)).alloc (.cells #[.slice (some ⟨wu.heap.size + 1, 0, none⟩) 1 1, .slice none 0 0, .int .i64 0] 46)
      have m1 := (Blk.new1 wu (.cells #[.int .i64 x, .int .i64 1000000, .int .i64 9, .int .i64 50] 83) 54 #[.int .i64 0, .slice (some ⟨wu.heap.size, 0, none⟩) 2 2]).alloc (.cells #[.slice (some ⟨wu.heap.size + 1, 0, none⟩) 1 1, .slice none 0 0, .int .i64 0] 46)
      have m2 := Blk.new2 wu (.cells #[.int .i64 x, .int .i64 1000000, .int .i64 9, .int .i64 50] 83) (.cells #[.int .i64 0, .slice (some ⟨wu.heap.size, 0, none⟩) 2 2] 54) 46 #[.slice (some ⟨wu.heap.size + 1, 0, none⟩) 1 1, .slice none 0 0, .int .i64 0]
      have o2 := q2.keep k3
      have hz := (q0.trans (Below.mono k3 q0.size)).size
      have HK3 := Lib.hid k3
      have HM := Lib.hid (And.intro m0 m1)
      have HO2 := Lib.hid o2
      clear hR q0 q1 q2 q3 hc hxe k1 k2 k3 m0 m1
      go_wp2_with (first
        | (at_builtin; refine wpList_append_my rfl (base := w.heap.size) (e := 46) (size := 3) (bytes := 56) (.tmp 11) (.tmp 22) 23 rfl Tryz.underlying23 HI.out HZ0.out HZ1.out HZ2.out rfl (by decide) (news := hrC (wu.heap.size + 1)) rfl (by exact o2) rfl (by exact Blk.src m2 rfl (hrC_one (wu.heap.size + 1))) (by simp only [maxLen]; omega) (by omega) (by exact hz) ?_
           intro B2 cb2 w2 hO3 hb2 hk2
           have HA := Lib.hid (And.intro hO3 (And.intro hb2 hk2))
           clear hO3 hb2 hk2))
      have HN := Lib.hid (show FmR w l (i + 1) B2 cb2 w2 by
        obtain ⟨q0, q1, q2, q3⟩ := HQ.out
        obtain ⟨a1, a2, a3⟩ := HA.out
        refine ⟨(q0.trans (Below.mono HK3.out q0.size)).trans a2, vs ++ [wu.heap.size + 1], by simp [q1], by rw [List.flatMap_append]; simpa using a1, fun j hj => ?_⟩
        by_cases hji : j = i
        · subst hji
          rw [List.getElem?_append_right (by omega), q1, Nat.sub_self, HXE.out]
          exact ⟨wu.heap.size, HM.out.2.own HO2.out a3 (by decide), HM.out.1.own HO2.out a3 (by decide)⟩
        · rw [List.getElem?_append_left (by omega)]
          obtain ⟨s, b1, b2⟩ := q3 j (by omega)
          exact ⟨s, (Kp.blk HK3.out b1).own HO2.out a3 (by decide), (Kp.blk HK3.out b2).own HO2.out a3 (by decide)⟩)
      clear o2 m2 hz y0
      go_wp2
      go_roundw
      case rel => exact ⟨i + 1, B2, cb2, by omega, by go_num, rfl, HN.out⟩
      case measure => simp [intOf]; omega
    · obtain rfl : i = n := by omega
      have HFIN := Lib.hid (And.intro (hR.out.at HX.out.1 HF.out) hR.out.1)
      clear hR
      go_wp2
      go_ret
      exact ⟨B, cb, rfl, HFIN.out⟩

theorem row29_any (A : Option Addr) (n c : Nat) (w : World) : Calls Tryz.prog 28 #[.slice A n c] w fun e w' => e = .returned (.slice A n c) ∧ w = w' := by
  go_enter Tryz.func28, Tryz.ntmps28
  go_wp2
  go_ret
  exact ⟨rfl, rfl⟩

end Go.Proofs.YtdoeejcmaeefcaaGreat
