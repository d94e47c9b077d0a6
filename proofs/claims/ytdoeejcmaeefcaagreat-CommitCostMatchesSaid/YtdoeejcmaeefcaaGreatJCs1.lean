/-
Reference 26: Same, SameAll, at rows of any length that a form reads. copied, of the statements on package commit. No statement of the seat is proved here; no conditions beyond those of each theorem.
-/
import Derived.Test.YtdoeejcmaeefcaaGreatHU
import Derived.Test.YtdoeejcmaeefcaaGreatJCa3
import Derived.Test.YtdoeejcmaeefcaaGreatIA
namespace Go.Proofs.YtdoeejcmaeefcaaGreat
set_option linter.unusedVariables false
set_option linter.unusedSimpArgs false
open Go.RowKit
open Wd
open Cm

set_option maxRecDepth 100000 in
set_option maxHeartbeats 2000000 in
theorem same26_fit (A B : Option Addr) (n c m d : Nat) (xs ys : List Bool) (w : World) (h : BsAt w A n xs) (h' : BsAt w B m ys) (hm : n ≤ 140737488355328) (hm' : m ≤ 140737488355328) :
    Calls Tryz.prog 36 #[.slice A n c, .slice B m d] w fun e w' => e = .returned (.bool (decide (xs = ys))) ∧ Below w.heap.size w w' := by
  by_cases hnm : n = m
  · subst hnm
    have hne : ((n : Int) != (n : Int)) = false := by simp
    have HX := Lib.hid h
    have HY := Lib.hid h'
    clear h h'
    go_enter Tryz.func36, Tryz.ntmps36
    go_wp2
    go_loopw [5] (fun t wr => ∃ k : Nat, k ≤ n ∧ t = .int .i64 k ∧ Hid ((∀ i, i < k → xs[i]?.getD false = ys[i]?.getD false) ∧ Below w.heap.size w wr)) (fun t _ => n - (intOf t).toNat)
    case atStart => exact ⟨0, Nat.zero_le _, rfl, fun i hi => absurd hi (by omega), Below.refl _ _⟩
    case round =>
      obtain ⟨k, hk, rfl, hR⟩ := hrel
      obtain ⟨wu, rfl⟩ : ∃ v, v = wr := ⟨_, rfl⟩
      by_cases hlt : k < n
      · obtain ⟨b, o, rfl, hb, hc⟩ := HX.out.2 (by omega)
        obtain ⟨b', o', rfl, hb', hc'⟩ := HY.out.2 (by omega)
        have c0 := (hR.out.2.cell (p := ⟨b, o + k, none⟩) hb).trans (hc k hlt)
        have c1 := (hR.out.2.cell (p := ⟨b', o' + k, none⟩) hb').trans (hc' k hlt)
        have i1 : (0 : Int) ≤ (k : Int) := by omega
        have i2 : (k : Int) < (n : Int) := by omega
        have HBD := Lib.hid (fun q => below_drewN hR.out.2 q)
        by_cases hxy : xs[k]?.getD false = ys[k]?.getD false
        · have d1 : (xs[k]?.getD false != ys[k]?.getD false) = false := by simpa using hxy
          have HN := Lib.hid (show ∀ i, i < k + 1 → xs[i]?.getD false = ys[i]?.getD false from fun i hi => by
            by_cases hik : i = k
            · subst hik; exact hxy
            · exact hR.out.1 i (by omega))
          generalize xs[k]?.getD false = x at *
          generalize ys[k]?.getD false = y at *
          obtain rfl : x = y := by simpa using d1
          clear hR hc hc' hxy d1
          cases x
          all_goals (
            go_wp2
            go_quiet (fail)
            go_wp2
            go_roundw
            case rel => exact ⟨k + 1, by omega, by go_num, HN.out, HBD.out _⟩
            case measure => simp [intOf]; omega)
        · have d1 : (xs[k]?.getD false != ys[k]?.getD false) = true := by simpa using hxy
          have HN := Lib.hid (show decide (xs = ys) = false by
            simp only [decide_eq_false_iff_not]
            intro e; exact hxy (by rw [e]))
          generalize xs[k]?.getD false = x at *
          generalize ys[k]?.getD false = y at *
          clear hR hc hc' hxy
          cases x <;> cases y <;> (first | (exfalso; simp at d1; done) | skip)
          all_goals (
            clear d1
            go_wp2
            go_quiet (fail)
            go_wp2
            go_ret
            exact ⟨by rw [HN.out]; rfl, HBD.out _⟩)
      · obtain rfl : k = n := by omega
        have HN := Lib.hid (show decide (xs = ys) = true by
          simp only [decide_eq_true_eq]
          exact ext_b (by rw [HX.out.1, HY.out.1]) fun i hi => hR.out.1 i (by rw [HX.out.1] at hi; exact hi))
        have HB := Lib.hid hR.out.2
        clear hR
        go_wp2
        go_ret
        exact ⟨by rw [HN.out]; rfl, HB.out⟩
  · have hne2 : decide (xs = ys) = false := by
      simp only [decide_eq_false_iff_not]
      intro e; exact hnm (by rw [← h.1, ← h'.1, e])
    have hne : ((n : Int) != (m : Int)) = true := by simp; omega
    rw [hne2]
    clear h h' hne2
    go_enter Tryz.func36, Tryz.ntmps36
    go_wp2
    go_ret
    exact ⟨rfl, Below.refl _ _⟩
/-- Rows of a length that a form reads. -/
def PlFit (pl : List (List Bool)) : Prop := ∀ r ∈ pl, r.length ≤ 140737488355328

set_option maxRecDepth 100000 in
set_option maxHeartbeats 2000000 in
theorem sameAll_fit (A B : Option Addr) (n c m d : Nat) (xs ys : List (List Bool)) (w : World) (h : PlAt w A n xs) (h' : PlAt w B m ys) (ho : PlFit xs) (ho' : PlFit ys) (hm : n ≤ 140737488355328) (hm' : m ≤ 140737488355328) :
    Calls Tryz.prog 15 #[.slice A n c, .slice B m d] w fun e w' => e = .returned (.bool (decide (xs = ys))) ∧ Below w.heap.size w w' := by
  by_cases hnm : n = m
  · subst hnm
    have hne : ((n : Int) != (n : Int)) = false := by simp
    have HX := Lib.hid h
    have HY := Lib.hid h'
    have HO := Lib.hid ho
    have HO' := Lib.hid ho'
    clear h h' ho ho'
    go_enter Tryz.func15, Tryz.ntmps15
    go_wp2
    go_loopw [5] (fun t wr => ∃ k : Nat, k ≤ n ∧ t = .int .i64 k ∧ Hid ((∀ i, i < k → xs[i]?.getD [] = ys[i]?.getD []) ∧ Below w.heap.size w wr)) (fun t _ => n - (intOf t).toNat)
    case atStart => exact ⟨0, Nat.zero_le _, rfl, fun i hi => absurd hi (by omega), Below.refl _ _⟩
    case round =>
      obtain ⟨k, hk, rfl, hR⟩ := hrel
      obtain ⟨wu, rfl⟩ : ∃ v, v = wr := ⟨_, rfl⟩
      by_cases hlt : k < n
      · obtain ⟨b, o, rfl, hb, hc⟩ := HX.out.2 (by omega)
        obtain ⟨b', o', rfl, hb', hc'⟩ := HY.out.2 (by omega)
        obtain ⟨A1, n1, c1, p0, p1⟩ := hc k hlt
        obtain ⟨A2, n2, c2, q0, q1⟩ := hc' k hlt
        have hl1 := HO.out _ (gmem (d := []) (show k < xs.length by rw [HX.out.1]; exact hlt))
        have hl2 := HO'.out _ (gmem (d := []) (show k < ys.length by rw [HY.out.1]; exact hlt))
        have g0 := (hR.out.2.cell (p := ⟨b, o + k, none⟩) hb).trans p0
        have g1 := (hR.out.2.cell (p := ⟨b', o' + k, none⟩) hb').trans q0
        have T := Lib.hid (fun W (hk : Kp wu W) => same26_fit A1 A2 n1 c1 n2 c2 (xs[k]?.getD []) (ys[k]?.getD []) W ((p1.below hR.out.2).below hk) ((q1.below hR.out.2).below hk) (by rw [← p1.1]; exact hl1) (by rw [← q1.1]; exact hl2))
        have hS : ∀ w', Kp wu w' → (w'.cell? ⟨b, o + k, none⟩ = some (.slice A1 n1 c1) ∧ w'.cell? ⟨b', o' + k, none⟩ = some (.slice A2 n2 c2)) ∧ Kp wu w' := fun w' hk => ⟨⟨(Below.cell hk (p := ⟨b, o + k, none⟩) (Nat.lt_of_lt_of_le hb hR.out.2.size)).trans g0, (Below.cell hk (p := ⟨b', o' + k, none⟩) (Nat.lt_of_lt_of_le hb' hR.out.2.size)).trans g1⟩, hk⟩
        have HS := Lib.hid hS
        have hk0 := Kp.refl wu
        have HB := Lib.hid hR.out.2
        have i1 : (0 : Int) ≤ (k : Int) := by omega
        have i2 : (k : Int) < (n : Int) := by omega
        by_cases hxy : xs[k]?.getD [] = ys[k]?.getD []
        · have HN := Lib.hid (show ∀ i, i < k + 1 → xs[i]?.getD [] = ys[i]?.getD [] from fun i hi => by
            by_cases hik : i = k
            · subst hik; exact hxy
            · exact hR.out.1 i (by omega))
          rw [decide_eq_true hxy] at T
          have hnt : (!true) = false := rfl
          clear hR hc hc' hxy hS p0 p1 q0 q1 g0 g1 hl1 hl2
          go_wp2_with fail
          go_region_held3 (fun w' => (w'.cell? ⟨b, o + k, none⟩ = some (.slice A1 n1 c1) ∧ w'.cell? ⟨b', o' + k, none⟩ = some (.slice A2 n2 c2)) ∧ Kp wu w')
            (first | (with_reducible refine HS.out _ ?_; with_reducible assumption) | (with_reducible refine HS.out _ (Kp.drew ?_); with_reducible assumption) | (with_reducible refine' HS.out _ (Kp.drew (And.right ?_)); rotate_left; with_reducible assumption))
            (first
              | (go_at_call 36; have hk := And.right ‹_ ∧ Kp wu _›; refine (T.out _ hk).mono ?_; rintro e w2 ⟨rfl, hb2⟩; have hk2 := Kp.trans hk hb2; clear hk hb2))
          have HB2 := Lib.hid (HB.out.trans (Below.mono hk2 HB.out.size))
          clear hk0 hk2 HS T
          go_wp2
          go_roundw
          case rel => exact ⟨k + 1, by omega, by go_num, HN.out, HB2.out⟩
          case measure => simp [intOf]; omega
        · have HN := Lib.hid (show decide (xs = ys) = false by
            simp only [decide_eq_false_iff_not]
            intro e; exact hxy (by rw [e]))
          rw [decide_eq_false hxy] at T
          have hnt : (!false) = true := rfl
          clear hR hc hc' hxy hS p0 p1 q0 q1 g0 g1 hl1 hl2
          go_wp2_with fail
          go_region_held3 (fun w' => (w'.cell? ⟨b, o + k, none⟩ = some (.slice A1 n1 c1) ∧ w'.cell? ⟨b', o' + k, none⟩ = some (.slice A2 n2 c2)) ∧ Kp wu w')
            (first | (with_reducible refine HS.out _ ?_; with_reducible assumption) | (with_reducible refine HS.out _ (Kp.drew ?_); with_reducible assumption) | (with_reducible refine' HS.out _ (Kp.drew (And.right ?_)); rotate_left; with_reducible assumption))
            (first
              | (go_at_call 36; have hk := And.right ‹_ ∧ Kp wu _›; refine (T.out _ hk).mono ?_; rintro e w2 ⟨rfl, hb2⟩; have hk2 := Kp.trans hk hb2; clear hk hb2))
          have HB2 := Lib.hid (HB.out.trans (Below.mono hk2 HB.out.size))
          clear hk0 hk2 HS T
          go_wp2
          go_ret
          exact ⟨by rw [HN.out]; rfl, HB2.out⟩
      · obtain rfl : k = n := by omega
        have HN := Lib.hid (show decide (xs = ys) = true by
          simp only [decide_eq_true_eq]
          exact ext_p (by rw [HX.out.1, HY.out.1]) fun i hi => hR.out.1 i (by rw [HX.out.1] at hi; exact hi))
        have HB := Lib.hid hR.out.2
        clear hR
        go_wp2
        go_ret
        exact ⟨by rw [HN.out]; rfl, HB.out⟩
  · have hne2 : decide (xs = ys) = false := by
      simp only [decide_eq_false_iff_not]
      intro e; exact hnm (by rw [← h.1, ← h'.1, e])
    have hne : ((n : Int) != (m : Int)) = true := by simp; omega
    rw [hne2]
    clear h h' hne2 ho ho'
    go_enter Tryz.func15, Tryz.ntmps15
    go_wp2
    go_ret
    exact ⟨rfl, Below.refl _ _⟩

end Go.Proofs.YtdoeejcmaeefcaaGreat

namespace Go.Proofs.YtdoeejcmaeefcaaGreat
set_option linter.unusedVariables false
set_option linter.unusedSimpArgs false
open Go.RowKit
open Wd
open Cm

theorem Own.apart {w w' : World} {base base' : Nat} {e e' : TypeId} {size size' n c m d : Nat} {A B : Option Addr} {xs ys : List Value} (h : Own base e size w A n c xs) (ho : Own base' e' size' w B m d ys) (hk : Kept w w' B) (ht : e ≠ e') : Own base e size w' A n c xs := by
  refine ⟨h.1, ?_⟩
  rcases h.2 with h2 | ⟨g, cap, cur, h2, h3, h4, h5⟩
  · exact Or.inl h2
  · exact Or.inr ⟨g, cap, cur, h2, h3, Blk.own (t := e) (cs := cur) h4 ho hk ht, h5⟩
/-- The rows that copied has laid. -/
def CpR (w : World) (pl : List (List Bool)) (i : Nat) (B : Option Addr) (cb : Nat) (wr : World) : Prop :=
  Below w.heap.size w wr ∧ ∃ vs : List Value, vs.length = i ∧ Own w.heap.size 35 1 wr B i cb vs ∧ ∀ j, j < i → ∃ A n c b, w.heap.size ≤ b ∧ vs[j]? = some (.slice A n c) ∧ Own b 4 1 wr A n c ((pl[j]?.getD []).map Value.bool)
theorem CpR.at {w wr : World} {pl : List (List Bool)} {B : Option Addr} {cb p : Nat} (h : CpR w pl p B cb wr) (hl : pl.length = p) : PlAt wr B p pl := by
  obtain ⟨_, vs, hv, ho, hs⟩ := h
  refine ⟨hl, fun hn => ?_⟩
  obtain ⟨g, cap, hv2, hb, hlt⟩ := World.ownsRow.form ho (by omega)
  simp at hv2
  obtain ⟨rfl, rfl⟩ := hv2
  refine ⟨g, 0, rfl, hlt, fun j hj => ?_⟩
  obtain ⟨A, n, c, b, _, e1, e2⟩ := hs j hj
  refine ⟨A, n, c, ?_, Own.bools e2⟩
  rw [Nat.zero_add, World.ownsRow.cellAt ho j (by omega)]
  exact e1

set_option maxRecDepth 100000 in
set_option maxHeartbeats 4000000 in
theorem copied_any (C : Option Addr) (p q : Nat) (pl : List (List Bool)) (w : World) (hp : PlAt w C p pl) (ho : PlFit pl) (hm : p ≤ 1000) :
    Calls Tryz.prog 12 #[.slice C p q] w fun e w' => ∃ B cb, e = .returned (.slice B p cb) ∧ CpR w pl p B cb w' := by
  have HP := Lib.hid hp
  have HO := Lib.hid ho
  obtain ⟨ii, hii, hz0, hz1, hz2⟩ := info_parts info_bool
  obtain ⟨ij, hij, hy0, hy1, hy2⟩ := info_parts info_bools
  have HI := Lib.hid hii
  have HZ0 := Lib.hid hz0
  have HZ1 := Lib.hid hz1
  have HZ2 := Lib.hid hz2
  have HJ := Lib.hid hij
  have HY0 := Lib.hid hy0
  have HY1 := Lib.hid hy1
  have HY2 := Lib.hid hy2
  clear hp ho hii hz0 hz1 hz2 hij hy0 hy1 hy2
  go_enter Tryz.func12, Tryz.ntmps12
  go_wp2_with fail
  go_loopw [3, 4] (fun t3 t4 wr => ∃ (k : Nat) (B : Option Addr) (cb : Nat), k ≤ p ∧ t4 = .int .i64 k ∧ t3 = .slice B k cb ∧ Hid (CpR w pl k B cb wr)) (fun _ t _ => p - (intOf t).toNat)
  case atStart => exact ⟨0, none, 0, Nat.zero_le _, rfl, rfl, Below.refl _ _, [], rfl, Own.nil _ _ _ _, fun j hj => absurd hj (by omega)⟩
  case round =>
    obtain ⟨k, B, cb, hk, rfl, rfl, hR⟩ := hrel
    obtain ⟨wu, rfl⟩ : ∃ v, v = wr := ⟨_, rfl⟩
    by_cases hlt : k < p
    · obtain ⟨bp, op, rfl, hbp, hcp⟩ := HP.out.2 (by omega)
      obtain ⟨Ap, np, cp, p0, hrow⟩ := hcp k hlt
      have hkp : k < pl.length := by rw [HP.out.1]; exact hlt
      have hnp : np ≤ 140737488355328 := by rw [← hrow.1]; exact HO.out _ (gmem (d := []) hkp)
      obtain ⟨q0, vs, q1, q2, q3⟩ := id hR.out
      have HQ := Lib.hid (And.intro q0 (And.intro q1 (And.intro q2 q3)))
      have a1 := (Kp.refl wu).alloc (.cells #[] 4)
      have d0' := (q0.cell (p := ⟨bp, op + k, none⟩) hbp).trans p0
      have hbp2 := Nat.lt_of_lt_of_le hbp q0.size
      have d0 := (Below.cell a1 (p := ⟨bp, op + k, none⟩) hbp2).trans d0'
      have o1 := Own.made (e := 4) (size := 1) wu (Nat.le_refl _)
      have s1 := ((hrow.below q0).below a1).src
      generalize hrw : pl[k]?.getD [] = row at *
      have HRW := Lib.hid hrw
      have i1 : (0 : Int) ≤ (k : Int) := by omega
      have i2 : (k : Int) < (p : Int) := by omega
      have HA1 := Lib.hid a1
      have hws := q0.size
      clear hR hcp p0 hrow hkp q0 q1 q3 hrw d0' a1
      go_wp2_with (first
        | (at_builtin; refine wpList_append_my rfl (base := wu.heap.size) (e := 4) (size := 1) (bytes := 1) (.tmp 12) (.tmp 16) 35 rfl Tryz.underlying35 HI.out HZ0.out HZ1.out HZ2.out rfl (by decide) (xs := []) (news := row.map Value.bool) rfl (by exact o1) rfl (by exact s1) (by simp only [maxLen]; omega) (by omega) (by simp) ?_
           intro B1 cb1 w2 hO1 hb1 hk1
           simp only [Nat.zero_add, List.nil_append] at hO1
           have k2 : Kp wu w2 := Below.trans HA1.out hb1
           have k3 := k2.alloc (.cells #[.slice B1 np cb1] 35)
           have m3 := Blk.new w2 35 #[.slice B1 np cb1]
           have o3 := q2.keep k3
           have hz3 : w.heap.size ≤ (w2.alloc (.cells #[.slice B1 np cb1] 35)).heap.size := Nat.le_trans hws k3.size
           have HR1 := Lib.hid (hO1.keep ((Kp.refl w2).alloc (.cells #[.slice B1 np cb1] 35)))
           have HK3 := Lib.hid k3
           have HO3 := Lib.hid o3
           clear hO1 hb1 hk1 k2 k3 o1 s1 d0)
        | (at_builtin; refine wpList_append_my rfl (base := w.heap.size) (e := 35) (size := 1) (bytes := 24) (.tmp 11) (.tmp 18) 24 rfl Tryz.underlying24 HJ.out HY0.out HY1.out HY2.out rfl (by decide) (news := [.slice B1 np cb1]) rfl (by exact o3) rfl (by exact Blk.src m3 rfl (by intro u hu; simp at hu; subst hu; rfl)) (by simp only [maxLen]; omega) (by omega) (by exact hz3) ?_
           intro B2 cb2 w4 hO4 hb4 hk4
           have HA := Lib.hid (And.intro hO4 (And.intro hb4 hk4))
           clear hO4 hb4 hk4 m3 o3 hz3))
      have HN := Lib.hid (show CpR w pl (k + 1) B2 cb2 w4 by
        obtain ⟨q0, q1, q2, q3⟩ := HQ.out
        obtain ⟨b1, b2, b3⟩ := HA.out
        refine ⟨(q0.trans (Below.mono HK3.out q0.size)).trans b2, vs ++ [.slice B1 np cb1], by simp [q1], b1, fun j hj => ?_⟩
        by_cases hjk : j = k
        · subst hjk
          refine ⟨B1, np, cb1, wu.heap.size, q0.size, by rw [List.getElem?_append_right (by omega), q1, Nat.sub_self]; rfl, ?_⟩
          rw [HRW.out]
          exact HR1.out.apart HO3.out b3 (by decide)
        · obtain ⟨A, n, c, b, e0, e1, e2⟩ := q3 j (by omega)
          exact ⟨A, n, c, b, e0, by rw [List.getElem?_append_left (by omega)]; exact e1, (e2.keep HK3.out).apart HO3.out b3 (by decide)⟩)
      clear q2
      go_wp2
      go_roundw
      case rel => exact ⟨k + 1, B2, cb2, by omega, by go_num, rfl, HN.out⟩
      case measure => simp [intOf]; omega
    · obtain rfl : k = p := by omega
      have HF := Lib.hid hR.out
      clear hR
      go_wp2
      go_ret
      exact ⟨B, cb, rfl, HF.out⟩

end Go.Proofs.YtdoeejcmaeefcaaGreat
