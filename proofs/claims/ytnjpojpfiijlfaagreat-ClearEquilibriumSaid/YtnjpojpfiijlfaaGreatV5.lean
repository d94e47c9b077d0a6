/-
The statements of layer 24: at. No statement of the seat is proved here; no conditions beyond those of each theorem.
-/
import Derived.Test.YtnjpojpfiijlfaaGreatGL
namespace Go.Proofs.YtnjpojpfiijlfaaGreat
set_option linter.unusedVariables false
set_option linter.unusedSimpArgs false
open Go.RowKit
open Wd

theorem atLv_snoc {lv : List St.Lv} {k : Nat} (hk : k < lv.length) (p : Int) : St.atLv (lv.take (k + 1)) p = St.atLv (lv.take k) p + if (lv[k]?.getD Lv0).1 = p then (lv[k]?.getD Lv0).2.1 else 0 := by
  have e : lv.take (k + 1) = lv.take k ++ [lv[k]?.getD Lv0] := by rw [List.take_add_one, List.getElem?_eq_getElem hk]; rfl
  unfold St.atLv
  rw [e, List.map_append]
  exact sumI_snoc _ _
theorem atLv_bd : ∀ (lv : List St.Lv) (p : Int), (∀ x ∈ lv, 0 < x.2.1 ∧ x.2.1 ≤ 16000000) → 0 ≤ St.atLv lv p ∧ St.atLv lv p ≤ 16000000 * (lv.length : Int)
  | [], _, _ => by simp [St.atLv, sumI]
  | x :: lv, p, h => by
    have h1 := h x (List.mem_cons_self ..)
    have h2 := atLv_bd lv p fun y hy => h y (List.mem_cons_of_mem _ hy)
    unfold St.atLv at *
    rw [List.map_cons, sumI, List.length_cons]
    split <;> omega

set_option maxRecDepth 100000 in
set_option maxHeartbeats 4000000 in
theorem at24_any (A : Option Addr) (m n c : Nat) (lv : List St.Lv) (p : Int) (w : World) (h : LvAt w A m n lv) (hm : m ≤ 48) (hq : ∀ x ∈ lv, 0 < x.2.1 ∧ x.2.1 ≤ 16000000) :
    Calls Tryz.prog 48 #[.slice A m c, .int .i64 p] w fun e w' => e = .returned (.int .i64 (St.atLv lv p)) ∧ Below w.heap.size w w' := by
  have HL := Lib.hid h
  have HLN := Lib.hid h.1
  have HQ := Lib.hid hq
  clear h hq
  go_enter Tryz.func48, Tryz.ntmps48
  go_wp2_with fail
  go_loopw [5, 6] (fun ts t wr => ∃ k : Nat, k ≤ m ∧ t = .int .i64 k ∧ ts = .int .i64 (St.atLv (lv.take k) p) ∧ Hid (Below w.heap.size w wr)) (fun _ t _ => m - (intOf t).toNat)
  case atStart => exact ⟨0, Nat.zero_le _, rfl, rfl, Below.refl _ _⟩
  case round =>
    obtain ⟨k, hk, rfl, rfl, hB⟩ := hrel
    by_cases hlt : k < m
    · obtain ⟨b, o, rfl, hb, hcell⟩ := HL.out.2 (by omega)
      obtain ⟨A', c', ⟨y0, y1, y2⟩, -⟩ := hcell k hlt
      have hsn := atLv_snoc (lv := lv) (k := k) (by rw [HLN.out]; exact hlt) p
      have hq := HQ.out _ (getD_mem (d := Lv0) (show k < lv.length by rw [HLN.out]; exact hlt))
      have hbd := atLv_bd (lv.take k) p fun x hx => HQ.out x (List.mem_of_mem_take hx)
      have hl2 := List.length_take_le k lv
      generalize (lv[k]?.getD Lv0).1 = p' at *
      generalize (lv[k]?.getD Lv0).2.1 = q at *
      generalize hts : St.atLv (lv.take k) p = s at *
      replace y0 := (hB.out.cell (p := ⟨b, o + k * 3, none⟩) hb).trans y0
      replace y1 := (hB.out.cell (p := ⟨b, o + k * 3 + 1, none⟩) hb).trans y1
      have k1 : (0 : Int) ≤ (k : Int) := by omega
      have k2 : (k : Int) < (m : Int) := by omega
      have xw : IntKind.i64.wrap (s + q) = s + q := IntWalk.i64_in _ (by omega)
      by_cases hp : p' = p
      · rw [if_pos hp] at hsn
        have hpp : (p' == p) = true := by simpa using hp
        have HSN := Lib.hid hsn
        clear hsn hcell hq hbd hl2 hts y2 hp
        go_wp2
        go_roundw
        case rel => exact ⟨k + 1, by omega, by go_num, by rw [HSN.out], hB.out⟩
        case measure => simp [intOf]; omega
      · rw [if_neg hp] at hsn
        have hpp : (p' == p) = false := beq_false_of_ne hp
        have HSN := Lib.hid hsn
        clear hsn hcell hq hbd hl2 hts y2 hp
        go_wp2
        go_roundw
        case rel => exact ⟨k + 1, by omega, by go_num, by rw [HSN.out]; simp, hB.out⟩
        case measure => simp [intOf]; omega
    · obtain rfl : k = m := by omega
      rw [List.take_of_length_le (by rw [HLN.out]; exact Nat.le_refl _)]
      go_wp2
      go_ret
      exact ⟨rfl, hB.out⟩

/-- The curves of a slice as what append takes. -/
theorem CsAt.src {w : World} {A : Option Addr} {n : Nat} {ls : List (List (Int × Int))} (h : CsAt w A n ls) :
    ∃ vs : List (Option Addr × Nat × Nat), vs.length = n ∧ SrcAt w A n 1 (vs.map slv) ∧ ∀ j, j < n → StAt w (vs[j]?.getD (none, 0, 0)).1 (vs[j]?.getD (none, 0, 0)).2.1 (ls[j]?.getD []) := by
  by_cases hn : n = 0
  · subst hn
    refine ⟨[], rfl, ⟨rfl, by simp, ?_⟩, fun j hj => absurd hj (by omega)⟩
    cases A with
    | none => exact Or.inl ⟨rfl, rfl⟩
    | some ad => exact Or.inr ⟨ad, rfl, by simp⟩
  · obtain ⟨b, o, F, rfl, hb, hF⟩ := h.cells hn
    refine ⟨(List.range n).map F, by simp, ⟨by simp, ?_, Or.inr ⟨_, rfl, ?_⟩⟩, fun j hj => ?_⟩
    · intro u hu
      obtain ⟨x, _, rfl⟩ := List.mem_map.1 hu
      rfl
    · intro j u hu
      have hj : j < n := by
        have := (List.getElem?_eq_some_iff.1 hu).1
        simpa using this
      rw [addr_add, (hF j hj).1, ← hu]
      simp [hj, slv]
    · have := (hF j hj).2
      simpa [hj] using this
theorem CsAt.one {w : World} {g : Nat} {t : TypeId} {A1 : Option Addr} {n1 c1 : Nat} {l1 : List (Int × Int)} (h : Blk w g t #[.slice A1 n1 c1]) (h1 : StAt w A1 n1 l1) : CsAt w (some ⟨g, 0, none⟩) 1 [l1] := by
  refine ⟨rfl, fun _ => ⟨g, 0, rfl, h.lt, fun j hj => ?_⟩⟩
  obtain rfl : j = 0 := by omega
  exact ⟨A1, n1, c1, h.cell 0, h1⟩

end Go.Proofs.YtnjpojpfiijlfaaGreat
