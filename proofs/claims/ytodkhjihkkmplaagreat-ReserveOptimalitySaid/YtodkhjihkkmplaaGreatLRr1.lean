/-
Rows of rationals among the arguments of a statement of layer 30. No statement of the seat is proved here; no conditions beyond those of each theorem.
-/
import Derived.Test.YtodkhjihkkmplaaGreatLRr0
import Derived.Test.YtodkhjihkkmplaaGreatLPN
namespace Go.Proofs.YtodkhjihkkmplaaGreat
set_option linter.unusedVariables false
set_option linter.unusedSimpArgs false
open Go.ChangeShapes Go.WideShapes Go.ChangeAt Go.RowKit Go.Deep
open Wd

theorem u16_of {z : Int} (h : (Lit.int .u16 z).wf = true) : ∃ i : Nat, z = (i : Int) ∧ i < 65536 := by
  simp [Lit.wf, IntKind.min, IntKind.max, IntKind.signed, IntKind.bits] at h
  exact ⟨z.toNat, by omega, by omega⟩
theorem cells_u32 : Tryz.prog.cellsOf 50 = 1 := by kernel_rfl
theorem cells_u32s : Tryz.prog.cellsOf 27 = 1 := by kernel_rfl
theorem cells_boolq : Tryz.prog.cellsOf 4 = 1 := by kernel_rfl
theorem cells_z : Tryz.prog.cellsOf 29 = 2 := by kernel_rfl
theorem cells_q : Tryz.prog.cellsOf 31 = 4 := by kernel_rfl
theorem u32_of {z : Int} (h : (Lit.int .u32 z).wf = true) : ∃ i : Nat, z = (i : Int) ∧ i < 4294967296 := by
  simp [Lit.wf, IntKind.min, IntKind.max, IntKind.signed, IntKind.bits] at h
  exact ⟨z.toNat, by omega, by omega⟩

section
variable {H : Type} {enc : TypeId × Value → H} {W : World}
theorem ws_of {fuel : Nat} {cs : List Value} {x : DataW H × List MemPlace} (h : DataW.trod enc Tryz.prog W 0 (fun _ => true) true fuel 27 cs = some x) : ∃ A n c l, cs = [.slice A n c] ∧ Wat W A n l ∧ n ≤ c := by
  rcases open_slice1 Tryz.underlying27 cells_u32 h with ⟨rfl, _⟩ | ⟨a, len, cap, m, n, V, D, Pl, rfl, hlc, hl, _, hmm, _, hi⟩
  · exact ⟨none, 0, 0, [], rfl, Wat.nil, Nat.le_refl _⟩
  · simp only [if_true] at hmm
    have each : ∀ i, i < len → ∃ z : Nat, W.cell? (a.add i) = some (.int .u32 (z : Int)) ∧ z < 4294967296 := by
      intro i hil
      obtain ⟨hc, ht⟩ := hi i (by omega)
      obtain ⟨z, hz, _, hw⟩ := DataW.trod_int Tryz.underlying50 ht
      obtain ⟨i', rfl, hi'⟩ := u32_of hw
      exact ⟨i', by rw [hc]; simpa using hz, hi'⟩
    obtain ⟨F, hF⟩ := choose_lt each
    refine ⟨some a, len, cap, (List.range len).map F, rfl, ⟨by simp, ?_, fun hn => ?_⟩, ?_⟩
    · intro z hz
      obtain ⟨i, hi', rfl⟩ := List.mem_map.1 hz
      exact (hF i (List.mem_range.1 hi')).2
    · obtain ⟨e, hb⟩ := plain_addr (hF 0 (by omega)).1
      have hsp : a.spot = none := by have := congrArg Addr.spot e; simpa [Addr.add] using this
      have ea : a = ⟨a.block, a.off, none⟩ := by obtain ⟨b, o, s⟩ := a; simp only at hsp ⊢; rw [hsp]
      refine ⟨a.block, a.off, by rw [← ea], by simpa [Addr.add] using hb, fun j hj => ?_⟩
      have e1 : ((List.range len).map F)[j]?.getD 0 = F j := by simp [hj]
      have c1 := (hF j hj).1
      rw [ea, addr_plus] at c1
      rw [e1]
      exact c1
    · omega
set_option maxRecDepth 100000 in
set_option maxHeartbeats 2000000 in
theorem z_of {fuel : Nat} {cs : List Value} {x : DataW H × List MemPlace} (hcl : cs.length = 2) (h : DataW.trod enc Tryz.prog W 0 (fun _ => true) true fuel 29 cs = some x) : ∃ an A n c l, cs = [.bool an, .slice A n c] ∧ Wat W A n l ∧ n ≤ c := by
  obtain ⟨xs, k, _, _, _, hxl, hg⟩ := DataW.trod_struct Tryz.underlying29 h
  have hxl2 : xs.length = 2 := hxl
  have h0 : DataW.trod enc Tryz.prog W 0 (fun _ => true) true k 4 ((cs.drop 0).take (Tryz.prog.cellsOf 4)) = xs[0]? := hg 0 _ rfl
  have h1 : DataW.trod enc Tryz.prog W 0 (fun _ => true) true k 27 ((cs.drop 1).take (Tryz.prog.cellsOf 27)) = xs[1]? := hg 1 _ rfl
  rw [cells_boolq, List.getElem?_eq_getElem (by omega)] at h0
  rw [cells_u32s, List.getElem?_eq_getElem (by omega)] at h1
  obtain ⟨an, e0, _⟩ := DataW.trod_bool Tryz.underlying4 h0
  obtain ⟨A, n, c, l, e1, hw, hc⟩ := ws_of h1
  have d0 := drop_one e0
  have d1 := drop_one e1
  refine ⟨an, A, n, c, l, ?_, hw, hc⟩
  match cs, hcl with
  | [a, b], _ =>
    simp at d0 d1
    rw [d0, d1]
/-- The words of an element lie somewhere. -/
def QWs (W : World) (e : QE) : Prop := ∃ l l', Wat W e.2.1.1 e.2.1.2.1 l ∧ Wat W e.2.2.2.1 e.2.2.2.2.1 l' ∧ e.2.1.2.1 ≤ e.2.1.2.2 ∧ e.2.2.2.2.1 ≤ e.2.2.2.2.2
def GRaw (W : World) (A : Option Addr) (m : Nat) (es : List QE) : Prop := QsAtR W A m es ∧ ∀ j, j < m → QWs W (es[j]?.getD QE0)
set_option maxRecDepth 100000 in
set_option maxHeartbeats 2000000 in
theorem qs_of {fuel : Nat} {cs : List Value} {x : DataW H × List MemPlace} (h : DataW.trod enc Tryz.prog W 0 (fun _ => true) true fuel 24 cs = some x) : ∃ A n c es, cs = [.slice A n c] ∧ GRaw W A n es := by
  rcases open_slice Tryz.underlying24 h with ⟨rfl, _⟩ | ⟨a, len, cap, m, n, D, Pl, rfl, _, hl, _, hmm, _, hi⟩
  · exact ⟨none, 0, 0, [], rfl, ⟨rfl, fun h => absurd rfl h⟩, fun j hj => absurd hj (by omega)⟩
  · simp only [if_true] at hmm
    have each : ∀ i, i < len → ∃ e : QE, (W.cell? (a.add (i * 4)) = some (.bool e.1) ∧ W.cell? (a.add (i * 4 + 1)) = some (.slice e.2.1.1 e.2.1.2.1 e.2.1.2.2) ∧ W.cell? (a.add (i * 4 + 2)) = some (.bool e.2.2.1) ∧ W.cell? (a.add (i * 4 + 3)) = some (.slice e.2.2.2.1 e.2.2.2.2.1 e.2.2.2.2.2)) ∧ QWs W e := by
      intro i hil
      obtain ⟨cs', hc, ht⟩ := hi i (by omega)
      rw [cells_q] at hc
      obtain ⟨xs, k, _, _, _, hxl, hg⟩ := DataW.trod_struct Tryz.underlying31 ht
      have hxl2 : xs.length = 2 := hxl
      obtain ⟨_, hcl, hcell⟩ := World.cells?_some hc
      have h0 : DataW.trod enc Tryz.prog W 0 (fun _ => true) true k 29 ((cs'.drop 0).take (Tryz.prog.cellsOf 29)) = xs[0]? := hg 0 _ rfl
      have h1 : DataW.trod enc Tryz.prog W 0 (fun _ => true) true k 29 ((cs'.drop 2).take (Tryz.prog.cellsOf 29)) = xs[1]? := hg 1 _ rfl
      rw [cells_z, List.getElem?_eq_getElem (by omega)] at h0 h1
      obtain ⟨an, A, n, c, l, e0, w0, b0⟩ := z_of (by simp; omega) h0
      obtain ⟨an', A', n', c', l', e1, w1, b1⟩ := z_of (by simp; omega) h1
      refine ⟨(an, (A, n, c), an', (A', n', c')), ?_, l, l', w0, w1, b0, b1⟩
      have r0 := hcell 0 (by omega)
      have r1 := hcell 1 (by omega)
      have r2 := hcell 2 (by omega)
      have r3 := hcell 3 (by omega)
      match cs', hcl with
      | [p0, p1, p2, p3], _ =>
        simp at e0 e1
        obtain ⟨rfl, rfl⟩ := e0
        obtain ⟨rfl, rfl⟩ := e1
        exact ⟨r0, by rw [← add_add]; exact r1, by rw [← add_add]; exact r2, by rw [← add_add]; exact r3⟩
    obtain ⟨F, hF⟩ := choose_lt each
    have e1 : ∀ j, j < len → ((List.range len).map F)[j]?.getD QE0 = F j := fun j hj => by simp [hj]
    refine ⟨some a, len, cap, (List.range len).map F, rfl, ⟨by simp, fun hn => ?_⟩, fun j hj => by rw [e1 j hj]; exact (hF j hj).2⟩
    obtain ⟨⟨h0, _⟩, _⟩ := hF 0 (by omega)
    obtain ⟨e, hb⟩ := plain_addr h0
    have hsp : a.spot = none := by have := congrArg Addr.spot e; simpa [Addr.add] using this
    have ea : a = ⟨a.block, a.off, none⟩ := by obtain ⟨b, o, s⟩ := a; simp only at hsp ⊢; rw [hsp]
    refine ⟨a.block, a.off, by rw [← ea], by simpa [Addr.add] using hb, fun j hj => ?_⟩
    obtain ⟨⟨c0, c1, c2, c3⟩, hs⟩ := hF j hj
    rw [ea, addr_plus] at c0 c1 c2 c3
    rw [e1 j hj]
    exact ⟨c0, c1, c2, c3⟩
end

theorem qk_raw {W : World} {an an' : Bool} {A A' : Option Addr} {n c n' c' : Nat} {l l' : List Nat} (h : Wat W A n l) (h' : Wat W A' n' l') (hc : n ≤ c) (hc' : n' ≤ c') (hn : n ≤ 6) (hn' : n' ≤ 6) : ∃ q, QK 0 W an A n c an' A' n' c' q := by
  have v1 := val_lt h.2.1
  have v2 := val_lt h'.2.1
  rw [h.1] at v1
  rw [h'.1] at v2
  have v3 := Nat.lt_of_lt_of_le v1 (Nat.pow_le_pow_right (by decide : 0 < 4294967296) hn)
  have v4 := Nat.lt_of_lt_of_le v2 (Nat.pow_le_pow_right (by decide : 0 < 4294967296) hn')
  have v5 : 4294967296 ^ 6 + 1 ≤ PB 0 := by decide
  have b1 : (qnum (sg an (val l)) (sg an' (val l'))).natAbs = val l := by
    have := sg_natAbs an (val l)
    unfold qnum
    split <;> omega
  have b2 : (qden (sg an' (val l'))).natAbs ≤ val l' + 1 := by
    have := sg_natAbs an' (val l')
    unfold qden
    split <;> (try split) <;> omega
  exact ⟨_, _, _, ⟨l, l', h, h', hc, hc', by omega, by omega, rfl, rfl⟩, by omega, by omega, rfl⟩
theorem GRaw.gs {W : World} {A : Option Addr} {m : Nat} {es : List QE} (h : GRaw W A m es) (hb : es.any bigQ = false) : ∃ qs, GsAt 0 W A m qs := by
  have each : ∀ j, j < m → ∃ q, QK 0 W (es[j]?.getD QE0).1 (es[j]?.getD QE0).2.1.1 (es[j]?.getD QE0).2.1.2.1 (es[j]?.getD QE0).2.1.2.2 (es[j]?.getD QE0).2.2.1 (es[j]?.getD QE0).2.2.2.1 (es[j]?.getD QE0).2.2.2.2.1 (es[j]?.getD QE0).2.2.2.2.2 q := fun j hj => by
    obtain ⟨l, l', w1, w2, c1, c2⟩ := h.2 j hj
    have hbj : bigQ (es[j]?.getD QE0) = false := by
      rw [List.any_eq_false] at hb
      have := hb _ (getD_mem (d := QE0) (by rw [h.1.1]; exact hj))
      simpa using this
    unfold bigQ at hbj
    simp only [Bool.or_eq_false_iff, decide_eq_false_iff_not] at hbj
    exact qk_raw w1 w2 c1 c2 (by omega) (by omega)
  obtain ⟨F, hF⟩ := choose_lt each
  refine ⟨(List.range m).map F, by simp, fun hn => ?_⟩
  obtain ⟨b, o, e, hlt, hc⟩ := h.1.2 hn
  refine ⟨b, o, e, hlt, fun j hj => ?_⟩
  have e1 : ((List.range m).map F)[j]?.getD 0 = F j := by simp [hj]
  rw [e1]
  obtain ⟨c0, c1, c2, c3⟩ := hc j hj
  exact ⟨_, _, _, _, _, _, _, _, c0, c1, c2, c3, hF j hj⟩

end Go.Proofs.YtodkhjihkkmplaaGreat
