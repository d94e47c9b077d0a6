/-
The walk of ClearDuality. No statement of the seat is proved here; no conditions beyond those of each theorem.
-/
import Derived.Test.YtnjpojpfiijlfaaGreatD4
namespace Go.Proofs.YtnjpojpfiijlfaaGreat
set_option linter.unusedVariables false
set_option linter.unusedSimpArgs false
open Go.RowKit
open Wd
theorem flw_neg (up : Bool) (v p : Int) : flw (!up) (-v) (-p) = flw up v p := by
  unfold flw
  cases up <;> simp <;> omega
theorem bad_neg {q p : Int} : Bad q (-p) ↔ Bad q p := by unfold Bad; omega
theorem chkFrom_neg (up : Bool) : ∀ (l : List (Int × Int)) (prev : Option Int), chkFrom (!up) (prev.map fun p => -p) (negL l) = chkFrom up prev l
  | [], prev => by cases prev <;> rfl
  | (q, p) :: r, prev => by
    have e : negL ((q, p) :: r) = (q, -p) :: negL r := rfl
    have ih := chkFrom_neg up r (some p)
    rw [e]
    by_cases hb : Bad q p
    · rw [chkFrom_bad hb, chkFrom_bad (bad_neg.2 hb)]
    · have hb' : ¬ Bad q (-p) := fun h => hb (bad_neg.1 h)
      cases prev with
      | none => rw [chkFrom_first hb, Option.map_none, chkFrom_first hb']; exact ih
      | some v =>
        rw [chkFrom_next hb, Option.map_some, chkFrom_next hb', flw_neg]
        rw [Option.map_some] at ih
        rw [ih]
theorem chk_neg (up : Bool) (l : List (Int × Int)) : chk (!up) (negL l) = chk up l := by
  have e : (negL l).length = l.length := by simp [negL]
  have := chkFrom_neg up l none
  rw [Option.map_none] at this
  unfold chk
  rw [e, this]
theorem ckB_neg {os bs : List (List (Int × Int))} (h : ckB os bs = 0) (h5 : bs.length ≤ 5) : ckB (negs bs) (negs os) = 0 := by
  obtain ⟨a1, a2, a3, a4⟩ := ckB_iff.1 h
  have l1 : (negs bs).length = bs.length := by simp [negs]
  have l2 : (negs os).length = os.length := by simp [negs]
  refine ckB_iff.2 ⟨by omega, by omega, fun l hl => ?_, fun l hl => ?_⟩
  · obtain ⟨l', hl', rfl⟩ := List.mem_map.1 hl
    exact (chk_neg false l').trans (a4 l' hl')
  · obtain ⟨l', hl', rfl⟩ := List.mem_map.1 hl
    exact (chk_neg true l').trans (a3 l' hl')
theorem PrZ.bd {os bs : List (List (Int × Int))} {p : Int} (h : PrZ os bs p) (ho : PrB os) (hb : PrB bs) : -1000000 ≤ p ∧ p ≤ 1000000 := by
  rcases h with ⟨h1, _⟩ | ⟨h1, _⟩
  · have key : ∀ ls : List (List (Int × Int)), PrB ls → absI p ∈ absS ls → -1000000 ≤ p ∧ p ≤ 1000000 := fun ls hl hm => by
      obtain ⟨l, hl1, hd⟩ := List.mem_flatMap.1 hm
      obtain ⟨s, hs, e⟩ := List.mem_map.1 hd
      have h1 := hl l hl1 s hs
      have h2 := absI_or s.2
      have h3 := absI_or p
      omega
    rcases List.mem_cons.1 h1 with e | hm
    · have := absI_or p
      omega
    · rcases List.mem_append.1 hm with hm | hm
      · exact key os ho hm
      · exact key bs hb hm
  · omega

set_option maxRecDepth 100000 in
set_option maxHeartbeats 4000000 in
theorem cdual_short (A B : Option Addr) (n c m d : Nat) (os bs : List (List (Int × Int))) (w : World) (h : CsAt w A n os) (h' : CsAt w B m bs) (hx : (longC os || longC bs) = true ∨ 5 < m ∨ ckB os bs ≠ 0) : Calls Tryz.prog 14 #[.slice A n c, .slice B m d] w fun e w' => e = .returned (.bool true) ∧ Below w.heap.size w w' := by
  have HAW := Lib.hid (fun W => awake25_any W)
  have HL := Lib.hid (long25_any A B n c m d os bs w h h')
  by_cases hlg : (longC os || longC bs) = true
  · rw [hlg] at HL
    clear h h' hx hlg
    go_enter Tryz.func14, Tryz.ntmps14
    go_wp2_with fail
    refine HL.out.mono ?_
    rintro e w1 ⟨rfl, hb1⟩
    have HB1 := Lib.hid hb1
    clear hb1 HL
    go_wp2_with fail
    refine (HAW.out _).mono ?_
    rintro e wz ⟨rfl, hbz⟩
    have HBZ := Lib.hid (HB1.out.trans (hbz.mono HB1.out.size))
    clear hbz
    go_wp2
    go_ret
    exact ⟨rfl, HBZ.out⟩
  · rw [Bool.not_eq_true] at hlg
    by_cases h5 : 5 < m
    · have x5 : (5 : Int) < (m : Int) := by omega
      rw [hlg] at HL
      clear h h' hx hlg h5
      go_enter Tryz.func14, Tryz.ntmps14
      go_wp2_with fail
      refine HL.out.mono ?_
      rintro e w1 ⟨rfl, hb1⟩
      have HB1 := Lib.hid hb1
      clear hb1 HL
      go_wp2_with fail
      refine (HAW.out _).mono ?_
      rintro e wz ⟨rfl, hbz⟩
      have HBZ := Lib.hid (HB1.out.trans (hbz.mono HB1.out.size))
      clear hbz
      go_wp2
      go_ret
      exact ⟨rfl, HBZ.out⟩
    · have hck : ckB os bs ≠ 0 := by
        rcases hx with hx | hx | hx
        · rw [hx] at hlg; simp at hlg
        · omega
        · exact hx
      have x5 : ¬ (5 : Int) < (m : Int) := by omega
      obtain ⟨l1, l2⟩ := Bool.or_eq_false_iff.1 hlg
      have HM := Lib.hid (fun W (hW : Below w.heap.size w W) => may_any A B n c m d os bs W (h.below hW) (h'.below hW) (longC_small l1) (longC_small l2))
      rw [decide_eq_false hck] at HM
      rw [hlg] at HL
      clear h h' hx hlg hck l1 l2 h5
      go_enter Tryz.func14, Tryz.ntmps14
      go_wp2_with fail
      refine HL.out.mono ?_
      rintro e w1 ⟨rfl, hb1⟩
      have HB1 := Lib.hid hb1
      clear hb1 HL
      go_wp2_with fail
      refine (HM.out w1 HB1.out).mono ?_
      rintro e w2 ⟨rfl, hb2⟩
      have HB2 := Lib.hid (HB1.out.trans (hb2.mono HB1.out.size))
      clear hb2 HM HB1
      go_wp2_with fail
      refine (HAW.out _).mono ?_
      rintro e wz ⟨rfl, hbz⟩
      have HBZ := Lib.hid (HB2.out.trans (hbz.mono HB2.out.size))
      clear hbz
      go_wp2
      go_ret
      exact ⟨rfl, HBZ.out⟩

set_option maxRecDepth 100000 in
set_option maxHeartbeats 8000000 in
theorem cdual_main (A B : Option Addr) (n c m d : Nat) (os bs : List (List (Int × Int))) (w : World) (h : CsAt w A n os) (h' : CsAt w B m bs) (hlg : (longC os || longC bs) = false) (hm5 : m ≤ 5) (hck : ckB os bs = 0) : Calls Tryz.prog 14 #[.slice A n c, .slice B m d] w fun e w' => e = .returned (.bool true) ∧ Below w.heap.size w w' := by
  have HAW := Lib.hid (fun W => awake25_any W)
  have HL := Lib.hid (long25_any A B n c m d os bs w h h')
  obtain ⟨l1, l2⟩ := Bool.or_eq_false_iff.1 hlg
  have HM := Lib.hid (fun W (hW : Below w.heap.size w W) => may_any A B n c m d os bs W (h.below hW) (h'.below hW) (longC_small l1) (longC_small l2))
  rw [decide_eq_true hck] at HM
  rw [hlg] at HL
  obtain ⟨k1, k2, k3, k4⟩ := ckB_iff.1 hck
  have hln := h.1
  have hlm := h'.1
  have hn5 : n ≤ 5 := by omega
  have x5 : ¬ (5 : Int) < (m : Int) := by omega
  have HX := Lib.hid h
  have HY := Lib.hid h'
  have HLA := Lib.hid hln
  have HLB := Lib.hid hlm
  have HCK := Lib.hid hck
  have HRA := Lib.hid (fun W (hW : Below w.heap.size w W) => run_ok A B n c m d os bs W (h.below hW) (h'.below hW) hck)
  have HTB := Lib.hid (fun W (hW : Below w.heap.size w W) => turned_any B m d bs W (h'.below hW) (by omega) (fun l hl => (chk_ok (k4 l hl)).2.1) (fun l hl => (chk_ok (k4 l hl)).2.2.2))
  have HTA := Lib.hid (fun W (hW : Below w.heap.size w W) => turned_any A n c os W (h.below hW) (by omega) (fun l hl => (chk_ok (k3 l hl)).2.1) (fun l hl => (chk_ok (k3 l hl)).2.2.2))
  have HRB := Lib.hid (fun W A1 c1 B1 d1 (h1 : CsAt W A1 m (negs bs)) (h2 : CsAt W B1 n (negs os)) => run_ok A1 B1 m c1 n d1 (negs bs) (negs os) W h1 h2 (ckB_neg hck (by omega)))
  have HPB := Lib.hid (And.intro (PrB.of k3) (PrB.of k4))
  clear h h' hlg hck l1 l2 k1 k2 k3 k4 hln hlm
  go_enter Tryz.func14, Tryz.ntmps14
  go_wp2_with fail
  refine HL.out.mono ?_
  rintro e w1 ⟨rfl, hb1⟩
  have HB1 := Lib.hid hb1
  clear hb1 HL
  go_wp2_with fail
  refine (HM.out w1 HB1.out).mono ?_
  rintro e w2 ⟨rfl, hb2⟩
  have HB2 := Lib.hid (HB1.out.trans (hb2.mono HB1.out.size))
  clear hb2 HM HB1
  go_wp2_with fail
  refine (HAW.out _).mono ?_
  rintro e w3 ⟨rfl, hb3⟩
  have HB3 := Lib.hid (HB2.out.trans (hb3.mono HB2.out.size))
  clear hb3 HB2 HAW
  go_wp2_with fail
  refine (HRA.out w3 HB3.out).mono ?_
  rintro e u1 ⟨z, p, wf, xs, ys, S, D, g1, g2, rfl, hv1, hi1, hi2, -, -, hb1⟩
  have hpb := hv1.pr.bd HPB.out.1 HPB.out.2
  have HV1 := Lib.hid hv1
  rw [HLA.out, HLB.out]
  have hbx := Blk.new u1 92 #[.int .i64 z, .int .i64 p, .int .i64 wf, .slice (some ⟨g1, 0, none⟩) n n, .slice (some ⟨g2, 0, none⟩) m m]
  have kx := (Kp.refl u1).alloc (.cells #[.int .i64 z, .int .i64 p, .int .i64 wf, .slice (some ⟨g1, 0, none⟩) n n, .slice (some ⟨g2, 0, none⟩) m m] 92)
  have HU1 := Lib.hid (HB3.out.trans ((hb1.trans (Below.mono kx hb1.size)).mono HB3.out.size))
  have HI := Lib.hid (And.intro hbx (And.intro (hi1.below kx) (hi2.below kx)))
  clear hv1 hb1 kx HRA hi1 hi2 hbx
  go_wp2_with fail
  generalize hWe : u1.alloc (.cells #[.int .i64 z, .int .i64 p, .int .i64 wf, .slice (some ⟨g1, 0, none⟩) n n, .slice (some ⟨g2, 0, none⟩) m m] 92) = U1 at *
  clear hWe
  refine (HTB.out U1 HU1.out).mono ?_
  rintro e u2 ⟨B1, d1, rfl, ht1, hb2⟩
  have HT1 := Lib.hid ht1
  have HU2 := Lib.hid (HU1.out.trans (hb2.mono HU1.out.size))
  have HK2 := Lib.hid hb2
  clear ht1 hb2 HTB
  go_wp2_with fail
  refine (HTA.out u2 HU2.out).mono ?_
  rintro e u3 ⟨A1, c1, rfl, ht2, hb3⟩
  have HRC := Lib.hid (HRB.out u3 B1 d1 A1 c1 (HT1.out.below hb3) ht2)
  have HU3 := Lib.hid (HU2.out.trans (hb3.mono HU2.out.size))
  have HK3 := Lib.hid (HK2.out.trans (hb3.mono HK2.out.size))
  clear ht2 hb3 HTA HT1 HRB HK2
  go_wp2_with fail
  refine HRC.out.mono ?_
  rintro e u4 ⟨z', p', wf', xs', ys', S', D', g3, g4, rfl, hv2, hi3, hi4, -, -, hb4⟩
  obtain ⟨e1, e2, e3, e4, e5⟩ := RunV.neg HCK.out HV1.out hv2
  have hl1 : (negs bs).length = m := by simp [negs]; exact HLB.out
  have hl2 : (negs os).length = n := by simp [negs]; exact HLA.out
  have hlx : xs.length = n := by rw [HV1.out.x, shAll_len]; exact HLA.out
  have hly : ys.length = m := by rw [HV1.out.y, shAll_len]; exact HLB.out
  rw [hl1, hl2]
  have xw : IntKind.i64.wrap (-p') = p := by rw [e2, Int.neg_neg]; exact IntWalk.i64_in _ (by omega)
  subst e1
  subst e3
  subst e4
  subst e5
  have K4 := HK3.out.trans (hb4.mono HK3.out.size)
  have ky := (Kp.refl u4).alloc (.cells #[.int .i64 z', .int .i64 p, .int .i64 wf', .slice (some ⟨g4, 0, none⟩) n n, .slice (some ⟨g3, 0, none⟩) m m] 92)
  have bx0 := ky.blk (HI.out.1.below K4 HI.out.1.lt)
  have i1 := (HI.out.2.1.below K4).below ky
  have i2 := (HI.out.2.2.below K4).below ky
  have i3 := hi3.below ky
  have i4 := hi4.below ky
  have hU4 := HU3.out.trans (hb4.mono HU3.out.size)
  have HU5 := Lib.hid (hU4.trans (Below.mono ky hU4.size))
  have HSM := Lib.hid (same25_yes (some ⟨g1, 0, none⟩) (some ⟨g4, 0, none⟩) (some ⟨g2, 0, none⟩) (some ⟨g3, 0, none⟩) n n n m m m z' p wf' ys' xs' _ (i1.at hlx) (i4.at hlx) (i2.at hly) (i3.at hly) (by omega) (by omega))
  obtain ⟨⟨x0, x1, x2, x3, x4⟩, -⟩ := bx0.five
  clear hv2 hb4 K4 ky bx0 i1 i2 i3 i4 hU4 hi3 hi4 HI HV1 HRC hl1 hl2 hlx hly HK3
  go_wp2_with fail
  refine HSM.out.mono ?_
  rintro e u5 ⟨rfl, hb5⟩
  have HEND := Lib.hid (HU5.out.trans (hb5.mono HU5.out.size))
  clear hb5 HU5 HSM
  go_wp2
  go_ret
  exact ⟨rfl, HEND.out⟩

theorem cdual_any (A B : Option Addr) (n c m d : Nat) (os bs : List (List (Int × Int))) (w : World) (h : CsAt w A n os) (h' : CsAt w B m bs) : Calls Tryz.prog 14 #[.slice A n c, .slice B m d] w fun e w' => e = .returned (.bool true) ∧ Below w.heap.size w w' := by
  by_cases hx : (longC os || longC bs) = true ∨ 5 < m ∨ ckB os bs ≠ 0
  · exact cdual_short A B n c m d os bs w h h' hx
  · exact cdual_main A B n c m d os bs w h h' (by rw [← Bool.not_eq_true]; exact fun e => hx (Or.inl e)) (by have : ¬ 5 < m := fun e => hx (Or.inr (Or.inl e)); omega) (Classical.not_not.1 fun e => hx (Or.inr (Or.inr e)))

end Go.Proofs.YtnjpojpfiijlfaaGreat
