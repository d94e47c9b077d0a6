/-
The walk of ClearMonotone. No statement of the seat is proved here; no conditions beyond those of each theorem.
-/
import Derived.Test.YtnjpojpfiijlfaaGreatD2
import Derived.Test.YtnjpojpfiijlfaaGreatV5
import Derived.Test.YtnjpojpfiijlfaaGreatY6
namespace Go.Proofs.YtnjpojpfiijlfaaGreat
set_option linter.unusedVariables false
set_option linter.unusedSimpArgs false
open Go.RowKit
open Wd
theorem get_snocC {ls : List (List (Int × Int))} {more : List (Int × Int)} {n : Nat} (hn : ls.length = n) (j : Nat) (hj : j < n + 1) : (ls ++ [more])[j]?.getD [] = if j < n then ls[j]?.getD [] else more := by
  split
  · rw [List.getElem?_append_left (by omega)]
  · obtain rfl : j = n := by omega
    rw [List.getElem?_append_right (by omega), hn]
    simp
/-- What Run returns, whatever the curves. -/
theorem run_all (A B : Option Addr) (n c m d : Nat) (os bs : List (List (Int × Int))) (w : World) (h : CsAt w A n os) (h' : CsAt w B m bs) (hs : ∀ l ∈ os, l.length ≤ 1000000000000) (ht : ∀ l ∈ bs, l.length ≤ 1000000000000) :
    Calls Tryz.prog 61 #[.slice A n c, .slice B m d] w fun e w' => ∃ (z p wf : Int) (X : Option Addr) (nx cx : Nat) (Y : Option Addr) (ny cy : Nat), e = .returned (.tuple #[.agg #[.int .i64 z, .int .i64 p, .int .i64 wf, .slice X nx cx, .slice Y ny cy], .int .i64 (ckB os bs)]) ∧ (ckB os bs = 0 → ∃ xs ys S D, RunV os bs z p wf xs ys S D) ∧ Below w.heap.size w w' := by
  by_cases hc : ckB os bs = 0
  · refine (run_ok A B n c m d os bs w h h' hc).mono ?_
    rintro e w' ⟨z, p, wf, xs, ys, S, D, g1, g2, rfl, hv, -, -, -, -, hb⟩
    exact ⟨z, p, wf, _, _, _, _, _, _, by rw [hc], fun _ => ⟨xs, ys, S, D, hv⟩, hb⟩
  · refine (run_no A B n c m d os bs w h h' hs ht hc).mono ?_
    rintro e w' ⟨rfl, hb⟩
    exact ⟨0, 0, 0, none, 0, 0, none, 0, 0, rfl, fun e => absurd e hc, hb⟩
theorem ckB_bid {os bs : List (List (Int × Int))} {more : List (Int × Int)} (h : ckB os bs = 0) : ckB os (bs ++ [more]) = 0 ↔ bs.length < 6 ∧ chk false more = 0 := by
  obtain ⟨a1, a2, a3, a4⟩ := ckB_iff.1 h
  rw [ckB_iff]
  simp only [List.length_append, List.length_cons, List.length_nil, List.mem_append, List.mem_cons, List.not_mem_nil, or_false]
  constructor
  · rintro ⟨_, h1, _, h2⟩
    exact ⟨by omega, h2 more (Or.inr rfl)⟩
  · rintro ⟨h1, h2⟩
    refine ⟨a1, by omega, a3, ?_⟩
    rintro l (hl | rfl)
    · exact a4 l hl
    · exact h2
theorem ckB_offer {os bs : List (List (Int × Int))} {more : List (Int × Int)} (h : ckB os bs = 0) : ckB (os ++ [more]) bs = 0 ↔ os.length < 5 ∧ chk true more = 0 := by
  obtain ⟨a1, a2, a3, a4⟩ := ckB_iff.1 h
  rw [ckB_iff]
  simp only [List.length_append, List.length_cons, List.length_nil, List.mem_append, List.mem_cons, List.not_mem_nil, or_false]
  constructor
  · rintro ⟨h1, _, h2, _⟩
    exact ⟨by omega, h2 more (Or.inr rfl)⟩
  · rintro ⟨h1, h2⟩
    refine ⟨by omega, a2, ?_, a4⟩
    rintro l (hl | rfl)
    · exact a3 l hl
    · exact h2
/-- How an error code, a bound and a check hang together. -/
theorem three {x y : Int} {P : Prop} [Decidable P] (h : x = 0 ↔ P ∧ y = 0) : (decide P = true ∧ (y == 0) = true ∧ (x == 0) = true ∧ x = 0) ∨ (decide P = true ∧ (y == 0) = false ∧ (x == 0) = false) ∨ (decide P = false ∧ (x == 0) = false) := by
  by_cases hp : P
  · by_cases hy : y = 0
    · have hx : x = 0 := h.2 ⟨hp, hy⟩
      exact Or.inl ⟨by simp [hp], by simp [hy], by simp [hx], hx⟩
    · have hx : ¬ x = 0 := fun e => hy (h.1 e).2
      exact Or.inr (Or.inl ⟨by simp [hp], by simp [hy], by simp [hx]⟩)
  · have hx : ¬ x = 0 := fun e => hp (h.1 e).1
    exact Or.inr (Or.inr ⟨by simp [hp], by simp [hx]⟩)

set_option maxRecDepth 100000 in
set_option maxHeartbeats 4000000 in
theorem cmono_short (A B : Option Addr) (n c m d : Nat) (os bs : List (List (Int × Int))) (Am : Option Addr) (nm cm : Nat) (more : List (Int × Int)) (w : World) (h : CsAt w A n os) (h' : CsAt w B m bs) (hm : StAt w Am nm more) (hx : (longC os || longC bs) = true ∨ longC [more] = true ∨ ckB os bs ≠ 0) : Calls Tryz.prog 12 #[.slice A n c, .slice B m d, .slice Am nm cm] w fun e w' => e = .returned (.bool true) ∧ Below w.heap.size w w' := by
  have HAW := Lib.hid (fun W => awake25_any W)
  have HL := Lib.hid (long25_any A B n c m d os bs w h h')
  have HMO := Lib.hid hm
  by_cases hlg : (longC os || longC bs) = true
  · rw [hlg] at HL
    clear h h' hx hlg hm
    go_enter Tryz.func12, Tryz.ntmps12
    go_wp2_with fail
    refine HL.out.mono ?_
    rintro e w1 ⟨rfl, hb1⟩
    have HB1 := Lib.hid hb1
    clear hb1 HL
    go_wp2_with fail
    refine (HAW.out _).mono ?_
    rintro e wz ⟨rfl, hbz⟩
    have HBZ := Lib.hid (HB1.out.trans (hbz.mono HB1.out.size))
    clear hbz
    go_wp2
    go_ret
    exact ⟨rfl, HBZ.out⟩
  · rw [Bool.not_eq_true] at hlg
    rw [hlg] at HL
    by_cases hl2 : longC [more] = true
    · have HL2E := Lib.hid hl2
      clear h h' hx hlg hm hl2
      go_enter Tryz.func12, Tryz.ntmps12
      go_wp2_with fail
      refine HL.out.mono ?_
      rintro e w1 ⟨rfl, hb1⟩
      have HB1 := Lib.hid hb1
      clear hb1 HL
      go_wp2_with fail
      have k1 := (Kp.refl w1).alloc (.cells #[.slice Am nm cm] 29)
      have hcs1 : CsAt (w1.alloc (.cells #[.slice Am nm cm] 29)) (some ⟨w1.heap.size, 0, none⟩) 1 [more] := CsAt.one (Blk.new w1 29 #[.slice Am nm cm]) ((HMO.out.below HB1.out).below k1)
      have HBK := Lib.hid (HB1.out.trans (Below.mono k1 HB1.out.size))
      have HSO := Lib.hid (some25 (some ⟨w1.heap.size, 0, none⟩) 1 1 (w1.alloc (.cells #[.slice Am nm cm] 29)))
      have HL2 := Lib.hid (fun W (hW : Below (w1.alloc (.cells #[.slice Am nm cm] 29)).heap.size (w1.alloc (.cells #[.slice Am nm cm] 29)) W) => long24_any (some ⟨w1.heap.size, 0, none⟩) 1 1 [more] W (hcs1.below hW))
      rw [HL2E.out] at HL2
      clear k1 hcs1
      refine HSO.out.mono ?_
      rintro e w2 ⟨rfl, hb2⟩
      have HB2 := Lib.hid hb2
      clear hb2 HSO
      go_wp2_with fail
      refine (HL2.out w2 HB2.out).mono ?_
      rintro e w3 ⟨rfl, hb3⟩
      have hx3 := HB2.out.trans (hb3.mono HB2.out.size)
      have HB3 := Lib.hid (HBK.out.trans (hx3.mono HBK.out.size))
      clear hb3 hx3 HB2 HBK HL2 HB1
      go_wp2_with fail
      refine (HAW.out _).mono ?_
      rintro e wz ⟨rfl, hbz⟩
      have HBZ := Lib.hid (HB3.out.trans (hbz.mono HB3.out.size))
      clear hbz
      go_wp2
      go_ret
      exact ⟨rfl, HBZ.out⟩
    · rw [Bool.not_eq_true] at hl2
      have hck : ckB os bs ≠ 0 := by
        rcases hx with hx | hx | hx
        · rw [hx] at hlg; simp at hlg
        · rw [hx] at hl2; simp at hl2
        · exact hx
      obtain ⟨l1, l2⟩ := Bool.or_eq_false_iff.1 hlg
      have HM := Lib.hid (fun W (hW : Below w.heap.size w W) => may_any A B n c m d os bs W (h.below hW) (h'.below hW) (longC_small l1) (longC_small l2))
      rw [decide_eq_false hck] at HM
      have HL2E := Lib.hid hl2
      clear h h' hx hlg hm hl2 hck l1 l2
      go_enter Tryz.func12, Tryz.ntmps12
      go_wp2_with fail
      refine HL.out.mono ?_
      rintro e w1 ⟨rfl, hb1⟩
      have HB1 := Lib.hid hb1
      clear hb1 HL
      go_wp2_with fail
      have k1 := (Kp.refl w1).alloc (.cells #[.slice Am nm cm] 29)
      have hcs1 : CsAt (w1.alloc (.cells #[.slice Am nm cm] 29)) (some ⟨w1.heap.size, 0, none⟩) 1 [more] := CsAt.one (Blk.new w1 29 #[.slice Am nm cm]) ((HMO.out.below HB1.out).below k1)
      have HBK := Lib.hid (HB1.out.trans (Below.mono k1 HB1.out.size))
      have HSO := Lib.hid (some25 (some ⟨w1.heap.size, 0, none⟩) 1 1 (w1.alloc (.cells #[.slice Am nm cm] 29)))
      have HL2 := Lib.hid (fun W (hW : Below (w1.alloc (.cells #[.slice Am nm cm] 29)).heap.size (w1.alloc (.cells #[.slice Am nm cm] 29)) W) => long24_any (some ⟨w1.heap.size, 0, none⟩) 1 1 [more] W (hcs1.below hW))
      rw [HL2E.out] at HL2
      clear k1 hcs1
      refine HSO.out.mono ?_
      rintro e w2 ⟨rfl, hb2⟩
      have HB2 := Lib.hid hb2
      clear hb2 HSO
      go_wp2_with fail
      refine (HL2.out w2 HB2.out).mono ?_
      rintro e w3 ⟨rfl, hb3⟩
      have hx3 := HB2.out.trans (hb3.mono HB2.out.size)
      have HB3 := Lib.hid (HBK.out.trans (hx3.mono HBK.out.size))
      clear hb3 hx3 HB2 HBK HL2 HB1
      go_wp2_with fail
      refine (HM.out w3 HB3.out).mono ?_
      rintro e w4 ⟨rfl, hb4⟩
      have HB4 := Lib.hid (HB3.out.trans (hb4.mono HB3.out.size))
      clear hb4 HM HB3
      go_wp2_with fail
      refine (HAW.out _).mono ?_
      rintro e wz ⟨rfl, hbz⟩
      have HBZ := Lib.hid (HB4.out.trans (hbz.mono HB4.out.size))
      clear hbz
      go_wp2
      go_ret
      exact ⟨rfl, HBZ.out⟩

end Go.Proofs.YtnjpojpfiijlfaaGreat
