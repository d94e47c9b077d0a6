/-
A unit by value among the arguments of a statement. No statement of the seat is proved here; no conditions beyond those of each theorem.
-/
import Derived.Test.YtdoeejcmaeefcaaGreatJRU
namespace Go.Proofs.YtdoeejcmaeefcaaGreat
set_option linter.unusedVariables false
set_option linter.unusedSimpArgs false
open Go.ChangeShapes Go.WideShapes Go.ChangeAt Go.RowKit Go.Deep
open Wd

set_option maxRecDepth 100000 in
set_option maxHeartbeats 2000000 in
theorem unit_of {H : Type} {enc : TypeId × Value → H} {W : World} {base : Nat} {v : Value} {d : DataW H} {p : List MemPlace} (hv : Value.okWide Tryz.prog W .any base 39 v) (h : DataW.Trod enc Tryz.prog W 0 (fun _ => true) true 39 v d p) :
    ∃ bus mn A' n' c' up dn start idle spin on l, v = .agg #[.int .i64 bus, .int .i64 mn, .slice A' n' c', .int .i64 up, .int .i64 dn, .int .i64 start, .int .i64 idle, .int .i64 spin, .int .i64 on] ∧ StAt W A' n' l := by
  obtain ⟨cs, rfl, hsz⟩ := okWide_struct Tryz.underlying39 hv
  obtain ⟨fuel, hf⟩ := h
  obtain ⟨cl⟩ := cs
  rw [cells_unit] at hsz
  obtain ⟨xs, k, _, _, _, hxl, hg⟩ := DataW.trod_struct Tryz.underlying39 hf
  have hxl2 : xs.length = 9 := hxl
  have hcl : cl.length = 9 := hsz
  obtain ⟨z0, h0, _⟩ := field_int (t := 3) (o := 0) (j := 0) Tryz.underlying3 cells_int (by omega) (hg 0 _ rfl)
  obtain ⟨z1, h1, _⟩ := field_int (t := 2) (o := 1) (j := 1) Tryz.underlying2 cells_int64 (by omega) (hg 1 _ rfl)
  obtain ⟨z3, h3, _⟩ := field_int (t := 3) (o := 3) (j := 3) Tryz.underlying3 cells_int (by omega) (hg 3 _ rfl)
  obtain ⟨z4, h4, _⟩ := field_int (t := 3) (o := 4) (j := 4) Tryz.underlying3 cells_int (by omega) (hg 4 _ rfl)
  obtain ⟨z5, h5, _⟩ := field_int (t := 2) (o := 5) (j := 5) Tryz.underlying2 cells_int64 (by omega) (hg 5 _ rfl)
  obtain ⟨z6, h6, _⟩ := field_int (t := 2) (o := 6) (j := 6) Tryz.underlying2 cells_int64 (by omega) (hg 6 _ rfl)
  obtain ⟨z7, h7, _⟩ := field_int (t := 2) (o := 7) (j := 7) Tryz.underlying2 cells_int64 (by omega) (hg 7 _ rfl)
  obtain ⟨z8, h8, _⟩ := field_int (t := 3) (o := 8) (j := 8) Tryz.underlying3 cells_int (by omega) (hg 8 _ rfl)
  have hs : DataW.trod enc Tryz.prog W 0 (fun _ => true) true k 37 ((cl.drop 2).take (Tryz.prog.cellsOf 37)) = xs[2]? := hg 2 _ rfl
  rw [cells_steps, List.getElem?_eq_getElem (by omega)] at hs
  obtain ⟨A', n', c', l, hl', hst⟩ := st_of hs
  have h2 := drop_one hl'
  simp only [Value.cells] at h0 h1 h3 h4 h5 h6 h7 h8
  refine ⟨z0, z1, A', n', c', z3, z4, z5, z6, z7, z8, l, ?_, hst⟩
  match cl, hcl with
  | [e0, e1, e2, e3, e4, e5, e6, e7, e8], _ =>
    simp at h0 h1 h2 h3 h4 h5 h6 h7 h8
    rw [h0, h1, h2, h3, h4, h5, h6, h7, h8]

end Go.Proofs.YtdoeejcmaeefcaaGreat
