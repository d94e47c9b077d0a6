/-
From the arguments of a statement on package commit to what the walks ask of memory: hours, bids, plans. No statement of the seat is proved here; no conditions beyond those of each theorem.
-/
import Derived.Test.YtdoeejcmaeefcaaGreatJRU
import Derived.Test.YtdoeejcmaeefcaaGreatJCw7
namespace Go.Proofs.YtdoeejcmaeefcaaGreat
set_option linter.unusedVariables false
set_option linter.unusedSimpArgs false
open Go.ChangeShapes Go.WideShapes Go.ChangeAt Go.RowKit Go.Deep
open Wd Cm

instance : Inhabited Hr := ⟨Hr0⟩
theorem cells_bids : Tryz.prog.cellsOf 44 = 1 := by kernel_rfl
theorem cells_bid : Tryz.prog.cellsOf 54 = 2 := by kernel_rfl
theorem cells_hour : Tryz.prog.cellsOf 46 = 3 := by kernel_rfl
theorem cells_bools : Tryz.prog.cellsOf 35 = 1 := by kernel_rfl

section
variable {H : Type} {enc : TypeId × Value → H} {W : World}

theorem bids_of {fuel : Nat} {cs : List Value} {x : DataW H × List MemPlace} (h : DataW.trod enc Tryz.prog W 0 (fun _ => true) true fuel 44 cs = some x) : ∃ A n c bs, cs = [.slice A n c] ∧ BdAt W A n bs := by
  rcases open_slice Tryz.underlying44 h with ⟨rfl, _⟩ | ⟨a, len, cap, m, n, D, Pl, rfl, _, hl, _, hmm, _, hi⟩
  · exact ⟨none, 0, 0, [], rfl, rfl, fun h => absurd rfl h⟩
  · simp only [if_true] at hmm
    have each : ∀ i, i < len → ∃ b : Bd, ∃ A' n' c', W.cell? (a.add (i * 2)) = some (.int .i64 b.1) ∧ W.cell? (a.add (i * 2 + 1)) = some (.slice A' n' c') ∧ StAt W A' n' b.2 := by
      intro i hil
      obtain ⟨cs', hc, ht⟩ := hi i (by omega)
      rw [cells_bid] at hc
      obtain ⟨xs, k, _, _, _, hxl, hf⟩ := DataW.trod_struct Tryz.underlying54 ht
      have hxl2 : xs.length = 2 := hxl
      obtain ⟨_, hcl, hcell⟩ := World.cells?_some hc
      obtain ⟨z0, h0, _⟩ := field_int (t := 3) (o := 0) (j := 0) Tryz.underlying3 cells_int (by omega) (hf 0 _ rfl)
      have hs : DataW.trod enc Tryz.prog W 0 (fun _ => true) true k 37 ((cs'.drop 1).take (Tryz.prog.cellsOf 37)) = xs[1]? := hf 1 _ rfl
      rw [cells_steps, List.getElem?_eq_getElem (by omega)] at hs
      obtain ⟨A', n', c', l, hl', hst⟩ := st_of hs
      have h1 := drop_one hl'
      refine ⟨(z0, l), A', n', c', ?_, ?_, hst⟩
      · have := hcell 0 (by omega); rw [h0] at this; exact this
      · have := hcell 1 (by omega); rw [h1] at this; rw [← add_add]; exact this
    obtain ⟨F, hF⟩ := choose_lt each
    refine ⟨some a, len, cap, (List.range len).map F, rfl, by simp, fun hn => ?_⟩
    obtain ⟨_, _, _, h0, _⟩ := hF 0 (by omega)
    obtain ⟨e, hb⟩ := plain_addr h0
    have hsp : a.spot = none := by have := congrArg Addr.spot e; simpa [Addr.add] using this
    have ea : a = ⟨a.block, a.off, none⟩ := by obtain ⟨b, o, s⟩ := a; simp only at hsp ⊢; rw [hsp]
    refine ⟨a.block, a.off, by rw [← ea], by simpa [Addr.add] using hb, fun j hj => ?_⟩
    have e1 : ((List.range len).map F)[j]?.getD Bd0 = F j := by simp [hj]
    obtain ⟨A', n', c', c0, c1, hs⟩ := hF j hj
    rw [ea, addr_plus] at c0 c1
    rw [e1]
    exact ⟨A', n', c', c0, c1, hs⟩

theorem hs_of {fuel : Nat} {cs : List Value} {x : DataW H × List MemPlace} (h : DataW.trod enc Tryz.prog W 0 (fun _ => true) true fuel 23 cs = some x) : ∃ A n c hs, cs = [.slice A n c] ∧ HsAt W A n hs := by
  rcases open_slice Tryz.underlying23 h with ⟨rfl, _⟩ | ⟨a, len, cap, m, n, D, Pl, rfl, _, hl, _, hmm, _, hi⟩
  · exact ⟨none, 0, 0, [], rfl, rfl, fun h => absurd rfl h⟩
  · simp only [if_true] at hmm
    have each : ∀ i, i < len → ∃ b : Hr, ∃ Ab nb cb Ar nr cr, W.cell? (a.add (i * 3)) = some (.slice Ab nb cb) ∧ W.cell? (a.add (i * 3 + 1)) = some (.slice Ar nr cr) ∧ W.cell? (a.add (i * 3 + 2)) = some (.int .i64 b.need) ∧ BdAt W Ab nb b.bids := by
      intro i hil
      obtain ⟨cs', hc, ht⟩ := hi i (by omega)
      rw [cells_hour] at hc
      obtain ⟨xs, k, _, _, _, hxl, hf⟩ := DataW.trod_struct Tryz.underlying46 ht
      have hxl2 : xs.length = 3 := hxl
      obtain ⟨_, hcl, hcell⟩ := World.cells?_some hc
      have hs0 : DataW.trod enc Tryz.prog W 0 (fun _ => true) true k 44 ((cs'.drop 0).take (Tryz.prog.cellsOf 44)) = xs[0]? := hf 0 _ rfl
      have hs1 : DataW.trod enc Tryz.prog W 0 (fun _ => true) true k 44 ((cs'.drop 1).take (Tryz.prog.cellsOf 44)) = xs[1]? := hf 1 _ rfl
      rw [cells_bids, List.getElem?_eq_getElem (by omega)] at hs0 hs1
      obtain ⟨Ab, nb, cb, l, hl0, hst⟩ := bids_of hs0
      obtain ⟨Ar, nr, cr, l1, hl1, _⟩ := bids_of hs1
      have h0 := drop_one hl0
      have h1 := drop_one hl1
      obtain ⟨z2, h2, _⟩ := field_int (t := 2) (o := 2) (j := 2) Tryz.underlying2 cells_int64 (by omega) (hf 2 _ rfl)
      refine ⟨⟨l, z2⟩, Ab, nb, cb, Ar, nr, cr, ?_, ?_, ?_, hst⟩
      · have := hcell 0 (by omega); rw [h0] at this; exact this
      · have := hcell 1 (by omega); rw [h1] at this; rw [← add_add]; exact this
      · have := hcell 2 (by omega); rw [h2] at this; rw [← add_add]; exact this
    obtain ⟨F, hF⟩ := choose_lt each
    refine ⟨some a, len, cap, (List.range len).map F, rfl, by simp, fun hn => ?_⟩
    obtain ⟨_, _, _, _, _, _, h0, _⟩ := hF 0 (by omega)
    obtain ⟨e, hb⟩ := plain_addr h0
    have hsp : a.spot = none := by have := congrArg Addr.spot e; simpa [Addr.add] using this
    have ea : a = ⟨a.block, a.off, none⟩ := by obtain ⟨b, o, s⟩ := a; simp only at hsp ⊢; rw [hsp]
    refine ⟨a.block, a.off, by rw [← ea], by simpa [Addr.add] using hb, fun j hj => ?_⟩
    have e1 : ((List.range len).map F)[j]?.getD Hr0 = F j := by simp [hj]
    obtain ⟨Ab, nb, cb, Ar, nr, cr, c0, c1, c2, hs⟩ := hF j hj
    rw [ea, addr_plus] at c0 c1 c2
    rw [e1]
    exact ⟨Ab, nb, cb, Ar, nr, cr, c0, c1, c2, hs⟩

theorem pl_of {fuel : Nat} {cs : List Value} {x : DataW H × List MemPlace} (h : DataW.trod enc Tryz.prog W 0 (fun _ => true) true fuel 24 cs = some x) : ∃ A n c pl, cs = [.slice A n c] ∧ PlAt W A n pl := by
  rcases open_slice1 Tryz.underlying24 cells_bools h with ⟨rfl, _⟩ | ⟨a, len, cap, m, n, V, D, Pl, rfl, _, hl, _, hmm, _, hi⟩
  · exact ⟨none, 0, 0, [], rfl, rfl, fun h => absurd rfl h⟩
  · simp only [if_true] at hmm
    have each : ∀ i, i < len → ∃ l : List Bool, ∃ A' n' c', W.cell? (a.add i) = some (.slice A' n' c') ∧ BsAt W A' n' l := by
      intro i hil
      obtain ⟨hc, ht⟩ := hi i (by omega)
      obtain ⟨A', n', c', l, hl', hst⟩ := bs_of ht
      exact ⟨l, A', n', c', by rw [hc]; simpa using hl', hst⟩
    obtain ⟨F, hF⟩ := choose_lt each
    refine ⟨some a, len, cap, (List.range len).map F, rfl, by simp, fun hn => ?_⟩
    obtain ⟨_, _, _, h0, _⟩ := hF 0 (by omega)
    obtain ⟨e, hb⟩ := plain_addr h0
    have hsp : a.spot = none := by have := congrArg Addr.spot e; simpa [Addr.add] using this
    have ea : a = ⟨a.block, a.off, none⟩ := by obtain ⟨b, o, s⟩ := a; simp only at hsp ⊢; rw [hsp]
    refine ⟨a.block, a.off, by rw [← ea], by simpa [Addr.add] using hb, fun j hj => ?_⟩
    have e1 : ((List.range len).map F)[j]?.getD [] = F j := by simp [hj]
    obtain ⟨A', n', c', c1, hs⟩ := hF j hj
    rw [ea, addr_plus] at c1
    rw [e1]
    exact ⟨A', n', c', c1, hs⟩
end
theorem u16_of {z : Int} (h : (Lit.int .u16 z).wf = true) : ∃ i : Nat, z = (i : Int) ∧ i < 65536 := by
  simp [Lit.wf, IntKind.min, IntKind.max, IntKind.signed, IntKind.bits] at h
  exact ⟨z.toNat, by omega, by omega⟩

end Go.Proofs.YtdoeejcmaeefcaaGreat
