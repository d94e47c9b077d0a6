/-
The reference of layer 29: Column. No statement of the seat is proved here; no conditions beyond those of each theorem.
-/
import Derived.Test.YtdoeejcmaeefcaaGreatJCw7
import Derived.Test.YtdoeejcmaeefcaaGreatHY
namespace Go.Proofs.YtdoeejcmaeefcaaGreat
set_option linter.unusedVariables false
set_option linter.unusedSimpArgs false
open Go.RowKit
open Wd
open Cm

set_option maxRecDepth 100000 in
set_option maxHeartbeats 4000000 in
theorem rcolumn_raw (C : Option Addr) (p q i : Nat) (pl : List (List Bool)) (w : World) (hp : PlAt w C p pl) (hr : ∀ r ∈ pl, i < r.length) (hm : p ≤ 1000) :
    Calls Tryz.prog 52 #[.slice C p q, .int .i64 (i : Int)] w fun e w' => ∃ B cb, e = .returned (.slice B p cb) ∧ BsAt w' B p (colB pl i) ∧ Below w.heap.size w w' := by
  have HP := Lib.hid hp
  have HR := Lib.hid hr
  obtain ⟨ii, hii, hz0, hz1, hz2⟩ := info_parts info_bool
  have HI := Lib.hid hii
  have HZ0 := Lib.hid hz0
  have HZ1 := Lib.hid hz1
  have HZ2 := Lib.hid hz2
  clear hp hr hii hz0 hz1 hz2
  go_enter Tryz.func52, Tryz.ntmps52
  go_wp2_with fail
  go_loopw [5, 6] (fun t5 t6 wr => ∃ (k : Nat) (B : Option Addr) (cb : Nat), k ≤ p ∧ t6 = .int .i64 k ∧ t5 = .slice B k cb ∧ Hid (Below w.heap.size w wr ∧ Own w.heap.size 4 1 wr B k cb (((colB pl i).take k).map Value.bool))) (fun _ t _ => p - (intOf t).toNat)
  case atStart => exact ⟨0, none, 0, Nat.zero_le _, rfl, rfl, Below.refl _ _, Own.nil _ _ _ _⟩
  case round =>
    obtain ⟨k, B, cb, hk, rfl, rfl, hR⟩ := hrel
    obtain ⟨wu, rfl⟩ : ∃ v, v = wr := ⟨_, rfl⟩
    by_cases hlt : k < p
    · obtain ⟨bp, op, rfl, hbp, hcp⟩ := HP.out.2 (by omega)
      obtain ⟨Ap, np, cp, p0, hrow⟩ := hcp k hlt
      have hkp : k < pl.length := by rw [HP.out.1]; exact hlt
      have hil := HR.out _ (gmem (d := []) hkp)
      have d0 := (hR.out.1.cell (p := ⟨bp, op + k, none⟩) hbp).trans p0
      have hrow2 := hrow.below hR.out.1
      have hnp : i < np := by rw [← hrow2.1]; exact hil
      obtain ⟨bq, oq, rfl, hbq, hcq⟩ := hrow2.2 (by omega)
      have d1 := hcq i hnp
      have hck : (colB pl i).take (k + 1) = (colB pl i).take k ++ [(pl[k]?.getD [])[i]?.getD false] := by
        have hkc : k < (colB pl i).length := by simp [colB]; exact hkp
        rw [List.take_succ_eq_append_getElem hkc]
        congr 2
        simp [colB, hkp]
      have HCK := Lib.hid hck
      generalize (pl[k]?.getD [])[i]?.getD false = b at *
      have i1 : (0 : Int) ≤ (k : Int) := by omega
      have i2 : (k : Int) < (p : Int) := by omega
      have j1 : (0 : Int) ≤ (i : Int) := by omega
      have j2 : (i : Int) < (np : Int) := by omega
      have HQ := Lib.hid hR.out
      have k1 := (Kp.refl wu).alloc (.cells #[.bool b] 4)
      have m1 := Blk.new wu 4 #[.bool b]
      have o2 := hR.out.2.keep k1
      have hz := (hR.out.1.trans (Below.mono k1 hR.out.1.size)).size
      have HK1 := Lib.hid k1
      have hone : ∀ u ∈ (#[.bool b] : Array Value).toList, u.oneCell' = true := by intro u hu; simp at hu; subst hu; rfl
      have HONE := Lib.hid hone
      clear hR hcp p0 hrow hrow2 hil hcq hck hkp k1 hone
      go_wp2_with (first
        | (at_builtin; refine wpList_append_my rfl (base := w.heap.size) (e := 4) (size := 1) (bytes := 1) (.tmp 13) (.tmp 21) 35 rfl Tryz.underlying35 HI.out HZ0.out HZ1.out HZ2.out rfl (by decide) (news := [.bool b]) rfl (by exact o2) rfl (by exact Blk.src m1 rfl HONE.out) (by simp only [maxLen]; omega) (by omega) (by exact hz) ?_
           intro B2 cb2 w2 hO3 hb2 hk2
           have HA := Lib.hid (And.intro hO3 (And.intro hb2 hk2))
           clear hO3 hb2 hk2))
      have HN := Lib.hid (show Below w.heap.size w w2 ∧ Own w.heap.size 4 1 w2 B2 (k + 1) cb2 (((colB pl i).take (k + 1)).map Value.bool) by
        obtain ⟨a1, a2, a3⟩ := HA.out
        refine ⟨(HQ.out.1.trans (Below.mono HK1.out HQ.out.1.size)).trans a2, ?_⟩
        rw [HCK.out, List.map_append]
        exact a1)
      clear o2 m1 hz d0 d1
      go_wp2
      go_roundw
      case rel => exact ⟨k + 1, B2, cb2, by omega, by go_num, rfl, HN.out⟩
      case measure => simp [intOf]; omega
    · obtain rfl : k = p := by omega
      have HF := Lib.hid (show BsAt wu B k (colB pl i) ∧ Below w.heap.size w wu by
        refine ⟨?_, hR.out.1⟩
        have h2 := hR.out.2
        rw [List.take_of_length_le (by simp [colB]; exact Nat.le_of_eq HP.out.1)] at h2
        exact Own.bools h2)
      clear hR
      go_wp2
      go_ret
      exact ⟨B, cb, rfl, HF.out⟩

end Go.Proofs.YtdoeejcmaeefcaaGreat
