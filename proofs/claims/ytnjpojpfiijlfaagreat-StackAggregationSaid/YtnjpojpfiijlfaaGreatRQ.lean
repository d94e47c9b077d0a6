/-
A rational among the arguments of a statement. No statement of the seat is proved here; no conditions beyond those of each theorem.
-/
import Derived.Test.YtnjpojpfiijlfaaGreatRB
import Derived.Test.YtnjpojpfiijlfaaGreatZ2
namespace Go.Proofs.YtnjpojpfiijlfaaGreat
set_option linter.unusedVariables false
set_option linter.unusedSimpArgs false
open Go.ChangeShapes Go.WideShapes Go.ChangeAt Go.RowKit Go.Deep
open Wd

theorem cells_u32 : Tryz.prog.cellsOf 59 = 1 := by kernel_rfl
theorem cells_u32s : Tryz.prog.cellsOf 38 = 1 := by kernel_rfl
theorem cells_boolq : Tryz.prog.cellsOf 4 = 1 := by kernel_rfl
theorem cells_z : Tryz.prog.cellsOf 40 = 2 := by kernel_rfl
theorem cells_q : Tryz.prog.cellsOf 42 = 4 := by kernel_rfl
theorem u32_of {z : Int} (h : (Lit.int .u32 z).wf = true) : ∃ i : Nat, z = (i : Int) ∧ i < 4294967296 := by
  simp [Lit.wf, IntKind.min, IntKind.max, IntKind.signed, IntKind.bits] at h
  exact ⟨z.toNat, by omega, by omega⟩

section
variable {H : Type} {enc : TypeId × Value → H} {W : World}
theorem ws_of {fuel : Nat} {cs : List Value} {x : DataW H × List MemPlace} (h : DataW.trod enc Tryz.prog W 0 (fun _ => true) true fuel 38 cs = some x) : ∃ A n c l, cs = [.slice A n c] ∧ Wat W A n l ∧ n ≤ c := by
  rcases open_slice1 Tryz.underlying38 cells_u32 h with ⟨rfl, _⟩ | ⟨a, len, cap, m, n, V, D, Pl, rfl, hlc, hl, _, hmm, _, hi⟩
  · exact ⟨none, 0, 0, [], rfl, Wat.nil, Nat.le_refl _⟩
  · simp only [if_true] at hmm
    have each : ∀ i, i < len → ∃ z : Nat, W.cell? (a.add i) = some (.int .u32 (z : Int)) ∧ z < 4294967296 := by
      intro i hil
      obtain ⟨hc, ht⟩ := hi i (by omega)
      obtain ⟨z, hz, _, hw⟩ := DataW.trod_int Tryz.underlying59 ht
      obtain ⟨i', rfl, hi'⟩ := u32_of hw
      exact ⟨i', by rw [hc]; simpa using hz, hi'⟩
    obtain ⟨F, hF⟩ := choose_lt each
    refine ⟨some a, len, cap, (List.range len).map F, rfl, ⟨by simp, ?_, fun hn => ?_⟩, ?_⟩
    · intro z hz
      obtain ⟨i, hi', rfl⟩ := List.mem_map.1 hz
      exact (hF i (List.mem_range.1 hi')).2
    · obtain ⟨e, hb⟩ := plain_addr (hF 0 (by omega)).1
      have hsp : a.spot = none := by have := congrArg Addr.spot e; simpa [Addr.add] using this
      have ea : a = ⟨a.block, a.off, none⟩ := by obtain ⟨b, o, s⟩ := a; simp only at hsp ⊢; rw [hsp]
      refine ⟨a.block, a.off, by rw [← ea], by simpa [Addr.add] using hb, fun j hj => ?_⟩
      have e1 : ((List.range len).map F)[j]?.getD 0 = F j := by simp [hj]
      have c1 := (hF j hj).1
      rw [ea, addr_plus] at c1
      rw [e1]
      exact c1
    · omega
set_option maxRecDepth 100000 in
set_option maxHeartbeats 2000000 in
theorem z_of {fuel : Nat} {cs : List Value} {x : DataW H × List MemPlace} (hcl : cs.length = 2) (h : DataW.trod enc Tryz.prog W 0 (fun _ => true) true fuel 40 cs = some x) : ∃ an A n c l, cs = [.bool an, .slice A n c] ∧ Wat W A n l ∧ n ≤ c := by
  obtain ⟨xs, k, _, _, _, hxl, hg⟩ := DataW.trod_struct Tryz.underlying40 h
  have hxl2 : xs.length = 2 := hxl
  have h0 : DataW.trod enc Tryz.prog W 0 (fun _ => true) true k 4 ((cs.drop 0).take (Tryz.prog.cellsOf 4)) = xs[0]? := hg 0 _ rfl
  have h1 : DataW.trod enc Tryz.prog W 0 (fun _ => true) true k 38 ((cs.drop 1).take (Tryz.prog.cellsOf 38)) = xs[1]? := hg 1 _ rfl
  rw [cells_boolq, List.getElem?_eq_getElem (by omega)] at h0
  rw [cells_u32s, List.getElem?_eq_getElem (by omega)] at h1
  obtain ⟨an, e0, _⟩ := DataW.trod_bool Tryz.underlying4 h0
  obtain ⟨A, n, c, l, e1, hw, hc⟩ := ws_of h1
  have d0 := drop_one e0
  have d1 := drop_one e1
  refine ⟨an, A, n, c, l, ?_, hw, hc⟩
  match cs, hcl with
  | [a, b], _ =>
    simp at d0 d1
    rw [d0, d1]
set_option maxRecDepth 100000 in
set_option maxHeartbeats 2000000 in
theorem q_of {base : Nat} {v : Value} {d : DataW H} {p : List MemPlace} (hv : Value.okWide Tryz.prog W .any base 42 v) (h : DataW.Trod enc Tryz.prog W 0 (fun _ => true) true 42 v d p) :
    ∃ an A n c an' A' n' c', v = .agg #[.bool an, .slice A n c, .bool an', .slice A' n' c'] ∧ QRaw W A n c A' n' c' := by
  obtain ⟨cs, rfl, hsz⟩ := okWide_struct Tryz.underlying42 hv
  obtain ⟨fuel, hf⟩ := h
  obtain ⟨cl⟩ := cs
  rw [cells_q] at hsz
  obtain ⟨xs, k, _, _, _, hxl, hg⟩ := DataW.trod_struct Tryz.underlying42 hf
  have hxl2 : xs.length = 2 := hxl
  have hcl : cl.length = 4 := hsz
  have h0 : DataW.trod enc Tryz.prog W 0 (fun _ => true) true k 40 ((cl.drop 0).take (Tryz.prog.cellsOf 40)) = xs[0]? := hg 0 _ rfl
  have h1 : DataW.trod enc Tryz.prog W 0 (fun _ => true) true k 40 ((cl.drop 2).take (Tryz.prog.cellsOf 40)) = xs[1]? := hg 1 _ rfl
  rw [cells_z, List.getElem?_eq_getElem (by omega)] at h0 h1
  obtain ⟨an, A, n, c, l, e0, w0, b0⟩ := z_of (by simp; omega) h0
  obtain ⟨an', A', n', c', l', e1, w1, b1⟩ := z_of (by simp; omega) h1
  refine ⟨an, A, n, c, an', A', n', c', ?_, l, l', w0, w1, b0, b1⟩
  match cl, hcl with
  | [a, b, a', b'], _ =>
    simp at e0 e1
    rw [e0.1, e0.2, e1.1, e1.2]
end

end Go.Proofs.YtnjpojpfiijlfaaGreat
