/-
The reference of layer 29: hour. The reference of layer 29: FirmDemand. The reference of layer 29: Check. The reference of layer 26: may, Starts, FixedCost. The reference of layer 26: Feasible. No statement of the seat is proved here; no conditions beyond those of each theorem.
-/
import Derived.Test.YtdoeejcmaeefcaaGreatHT
import Derived.Test.YtdoeejcmaeefcaaGreatJT1
import Derived.Test.YtdoeejcmaeefcaaGreatJT8
import Derived.Test.YtdoeejcmaeefcaaGreatHR
namespace Go.Proofs.YtdoeejcmaeefcaaGreat
set_option linter.unusedVariables false
set_option linter.unusedSimpArgs false
open Go.RowKit
open Wd
open Cm

set_option maxRecDepth 100000 in
set_option maxHeartbeats 4000000 in
theorem rhour_raw (Ab Ar : Option Addr) (nb cb nr cr : Nat) (need : Int) (bids : List Bd) (w : World) (h : BdAt w Ab nb bids) :
    Calls Tryz.prog 51 #[.agg #[.slice Ab nb cb, .slice Ar nr cr, .int .i64 need]] w fun e w' => e = .returned (.int .i64 (hchk ⟨bids, need⟩)) ∧ Below w.heap.size w w' := by
  have HX := Lib.hid h
  have hlen := h.1
  by_cases h6 : 6 < nb
  · have HE := Lib.hid (show hchk ⟨bids, need⟩ = 5 by unfold hchk; rw [if_pos (by simp only; omega)])
    have h6i : (6 : Int) < (nb : Int) := by omega
    clear h hlen
    go_enter Tryz.func51, Tryz.ntmps51
    go_wp2_with fail
    have hBX := Blk.new w 46 #[.slice Ab nb cb, .slice Ar nr cr, .int .i64 need]
    have hb0 : Below w.heap.size w (w.alloc (.cells #[.slice Ab nb cb, .slice Ar nr cr, .int .i64 need] 46)) := (Below.refl _ _).alloc (Nat.le_refl _) _
    generalize w.alloc (.cells #[.slice Ab nb cb, .slice Ar nr cr, .int .i64 need] 46) = W at *
    obtain ⟨u0, u1, u2⟩ := (show W.cell? ⟨w.heap.size, 0, none⟩ = some _ ∧ W.cell? ⟨w.heap.size, 1, none⟩ = some _ ∧ W.cell? ⟨w.heap.size, 2, none⟩ = some _ from ⟨hBX.cell 0, hBX.cell 1, hBX.cell 2⟩)
    go_wp2
    go_ret
    exact ⟨by rw [HE.out]; rfl, hb0⟩
  · have HE0 := Lib.hid (show hchk ⟨bids, need⟩ = if bchk bids ≠ 0 then bchk bids else if need < 0 ∨ 1000000 < need then 1 else 0 by unfold hchk; rw [if_neg (by simp only; omega)])
    have h6i : ¬ (6 : Int) < (nb : Int) := by omega
    generalize hchk ⟨bids, need⟩ = res at *
    clear h hlen
    go_enter Tryz.func51, Tryz.ntmps51
    go_wp2_with fail
    have hBX := Blk.new w 46 #[.slice Ab nb cb, .slice Ar nr cr, .int .i64 need]
    have hb0 : Below w.heap.size w (w.alloc (.cells #[.slice Ab nb cb, .slice Ar nr cr, .int .i64 need] 46)) := (Below.refl _ _).alloc (Nat.le_refl _) _
    generalize w.alloc (.cells #[.slice Ab nb cb, .slice Ar nr cr, .int .i64 need] 46) = W at *
    have HST := Lib.hid (And.intro hb0 hBX)
    obtain ⟨u0, u1, u2⟩ := (show W.cell? ⟨w.heap.size, 0, none⟩ = some _ ∧ W.cell? ⟨w.heap.size, 1, none⟩ = some _ ∧ W.cell? ⟨w.heap.size, 2, none⟩ = some _ from ⟨hBX.cell 0, hBX.cell 1, hBX.cell 2⟩)
    clear hb0 hBX
    go_wp2_with fail
    clear u0 u1 u2
    go_loopw [3] (fun t wr => ∃ (k : Nat), k ≤ nb ∧ t = .int .i64 k ∧ Hid (Below w.heap.size w wr ∧ Blk wr w.heap.size 46 #[.slice Ab nb cb, .slice Ar nr cr, .int .i64 need] ∧ bchk bids = bchk (bids.drop k))) (fun t _ => nb - (intOf t).toNat)
    case atStart => exact ⟨0, Nat.zero_le _, rfl, HST.out.1, HST.out.2, by simp⟩
    case round =>
      clear HST
      obtain ⟨k, hk, rfl, hR⟩ := hrel
      obtain ⟨u0, u1, u2⟩ := (show wr.cell? ⟨w.heap.size, 0, none⟩ = some _ ∧ wr.cell? ⟨w.heap.size, 1, none⟩ = some _ ∧ wr.cell? ⟨w.heap.size, 2, none⟩ = some _ from ⟨hR.out.2.1.cell 0, hR.out.2.1.cell 1, hR.out.2.1.cell 2⟩)
      by_cases hlt : k < nb
      · obtain ⟨b', o', rfl, hb', hc⟩ := HX.out.2 (by omega)
        obtain ⟨A', n', c', e0, e1, hst⟩ := hc k hlt
        have c0 := (hR.out.1.cell (p := ⟨b', o' + k * 2, none⟩) hb').trans e0
        have c1 := (hR.out.1.cell (p := ⟨b', o' + k * 2 + 1, none⟩) hb').trans e1
        have hkl : k < bids.length := by rw [HX.out.1]; exact hlt
        have hd := dropD (d := Bd0) hkl
        have hrel := hR.out.2.2
        rw [hd] at hrel
        have T := Lib.hid (rcheck_dn A' n' c' (bids[k]?.getD Bd0).2 wr (hst.below hR.out.1))
        have h1 := fun hh => hrel.trans (bchk_bus (b := bids[k]?.getD Bd0) (r := bids.drop (k + 1)) hh)
        have h2 := fun hh hh2 => hrel.trans (bchk_bad (b := bids[k]?.getD Bd0) (r := bids.drop (k + 1)) hh hh2)
        have h3 := fun hh hh2 => hrel.trans (bchk_ok (b := bids[k]?.getD Bd0) (r := bids.drop (k + 1)) hh hh2)
        generalize (bids[k]?.getD Bd0).1 = bus at *
        generalize chk false (bids[k]?.getD Bd0).2 = ce at *
        have k1 : (0 : Int) ≤ (k : Int) := by omega
        have k2 : (k : Int) < (nb : Int) := by omega
        have HBW := Lib.hid (And.intro hR.out.1 hR.out.2.1)
        clear hc e0 e1 hst hd hrel hR hkl
        by_cases g1 : bus < 0
        · have HE := Lib.hid (h1 (Or.inl g1))
          clear h1 h2 h3 T
          go_wp2
          go_ret
          exact ⟨by rw [HE0.out, if_pos (by rw [HE.out]; decide), HE.out]; rfl, HBW.out.1⟩
        · by_cases g2 : 5 < bus
          · have HE := Lib.hid (h1 (Or.inr (by omega)))
            clear h1 h2 h3 T
            go_wp2
            go_ret
            exact ⟨by rw [HE0.out, if_pos (by rw [HE.out]; decide), HE.out]; rfl, HBW.out.1⟩
          · have hg : ¬ (bus < 0 ∨ 6 ≤ bus) := by omega
            have H2 := Lib.hid (h2 hg)
            have H3 := Lib.hid (h3 hg)
            clear h1 h2 h3 hg
            go_wp2_with fail
            refine T.out.mono ?_
            rintro e w2 ⟨rfl, hb2⟩
            have HB3 := Lib.hid (And.intro (HBW.out.1.trans (hb2.mono HBW.out.1.size)) (HBW.out.2.below hb2 HBW.out.2.lt))
            clear hb2 T u0 u1 u2
            by_cases g3 : ce = 0
            · have he : (ce != 0) = false := by simp [g3]
              have HE := Lib.hid (H3.out g3)
              clear H2 H3 g3
              go_wp2
              go_roundw
              case rel => exact ⟨k + 1, by omega, by go_num, HB3.out.1, HB3.out.2, HE.out⟩
              case measure => simp [intOf]; omega
            · have he : (ce != 0) = true := by simp [g3]
              have HE := Lib.hid (H2.out g3)
              have HN := Lib.hid g3
              clear H2 H3 g3
              go_wp2
              go_ret
              exact ⟨by rw [HE0.out, if_pos (by rw [HE.out]; exact HN.out), HE.out]; rfl, HB3.out.1⟩
      · obtain rfl : nb = k := by omega
        have hrel := hR.out.2.2
        rw [List.drop_eq_nil_of_le (by rw [HX.out.1]; exact Nat.le_refl _)] at hrel
        have HE := Lib.hid (hrel.trans (show bchk [] = 0 from rfl))
        have hB := hR.out.1
        have HBW := Lib.hid hB
        have HE1 := Lib.hid (HE0.out.trans (if_neg (by rw [HE.out]; simp)))
        clear hrel hR hB HE HE0
        by_cases g1 : need < 0
        · have HE2 := Lib.hid (HE1.out.trans (if_pos (Or.inl g1)))
          clear HE1
          go_wp2
          go_ret
          exact ⟨by rw [HE2.out]; rfl, HBW.out⟩
        · by_cases g2 : 1000000 < need
          · have HE2 := Lib.hid (HE1.out.trans (if_pos (Or.inr g2)))
            clear HE1
            go_wp2
            go_ret
            exact ⟨by rw [HE2.out]; rfl, HBW.out⟩
          · have HE2 := Lib.hid (HE1.out.trans (if_neg (by omega)))
            clear HE1
            go_wp2
            go_ret
            exact ⟨by rw [HE2.out]; rfl, HBW.out⟩

end Go.Proofs.YtdoeejcmaeefcaaGreat

namespace Go.Proofs.YtdoeejcmaeefcaaGreat
set_option linter.unusedVariables false
set_option linter.unusedSimpArgs false
open Go.RowKit
open Wd
open Cm

set_option maxRecDepth 100000 in
set_option maxHeartbeats 4000000 in
theorem rfirm_bad (Ab Ar : Option Addr) (nb cb nr cr : Nat) (need : Int) (bids : List Bd) (w : World) (h : BdAt w Ab nb bids) (hk : ¬ hchk ⟨bids, need⟩ = 0) :
    Calls Tryz.prog 55 #[.agg #[.slice Ab nb cb, .slice Ar nr cr, .int .i64 need]] w fun e w' => e = .returned (.int .i64 0) ∧ Below w.heap.size w w' := by
  have T := Lib.hid (fun W (hW : Below w.heap.size w W) => rhour_raw Ab Ar nb cb nr cr need bids W (h.below hW))
  have he : (hchk ⟨bids, need⟩ == 0) = false := by simp [hk]
  generalize hchk ⟨bids, need⟩ = ce at *
  clear hk h
  go_enter Tryz.func55, Tryz.ntmps55
  go_wp2_with fail
  have hBX := Blk.new w 46 #[.slice Ab nb cb, .slice Ar nr cr, .int .i64 need]
  have hb0 : Below w.heap.size w (w.alloc (.cells #[.slice Ab nb cb, .slice Ar nr cr, .int .i64 need] 46)) := (Below.refl _ _).alloc (Nat.le_refl _) _
  generalize w.alloc (.cells #[.slice Ab nb cb, .slice Ar nr cr, .int .i64 need] 46) = W at *
  have HST := Lib.hid (And.intro hb0 hBX)
  clear hb0 hBX
  go_loopw [3, 4] (fun tz t wr => t = .int .i64 0 ∧ tz = .int .i64 0 ∧ Hid (Below w.heap.size w wr ∧ Blk wr w.heap.size 46 #[.slice Ab nb cb, .slice Ar nr cr, .int .i64 need])) (fun _ _ _ => 0)
  case atStart => exact ⟨rfl, rfl, HST.out⟩
  case round =>
    clear HST
    obtain ⟨rfl, rfl, hR⟩ := hrel
    obtain ⟨wv, rfl⟩ : ∃ v, v = wr := ⟨_, rfl⟩
    obtain ⟨u0, u1, u2⟩ := (show wv.cell? ⟨w.heap.size, 0, none⟩ = some _ ∧ wv.cell? ⟨w.heap.size, 1, none⟩ = some _ ∧ wv.cell? ⟨w.heap.size, 2, none⟩ = some _ from ⟨(hR.out.2).cell 0, (hR.out.2).cell 1, (hR.out.2).cell 2⟩)
    have HB := Lib.hid hR.out.1
    clear hR
    by_cases hlt : 0 < nb
    · have k2 : (0 : Int) < (nb : Int) := by omega
      go_wp2_with fail
      refine (T.out wv HB.out).mono ?_
      rintro e w2 ⟨rfl, hb2⟩
      have HB3 := Lib.hid (HB.out.trans (hb2.mono HB.out.size))
      clear hb2 T
      go_wp2
      go_ret
      exact ⟨rfl, HB3.out⟩
    · obtain rfl : nb = 0 := by omega
      go_wp2
      go_ret
      exact ⟨rfl, HB.out⟩

set_option maxRecDepth 100000 in
set_option maxHeartbeats 4000000 in
theorem rfirm_ok (Ab Ar : Option Addr) (nb cb nr cr : Nat) (need : Int) (bids : List Bd) (w : World) (h : BdAt w Ab nb bids) (hk : hchk ⟨bids, need⟩ = 0) :
    Calls Tryz.prog 55 #[.agg #[.slice Ab nb cb, .slice Ar nr cr, .int .i64 need]] w fun e w' => e = .returned (.int .i64 (firm ⟨bids, need⟩)) ∧ Below w.heap.size w w' := by
  have HX := Lib.hid h
  have T := Lib.hid (fun W (hW : Below w.heap.size w W) => rhour_raw Ab Ar nb cb nr cr need bids W (h.below hW))
  rw [hk] at T
  clear h
  obtain ⟨b6, hg, -, -⟩ := hchk_ok hk
  simp only at b6 hg
  have HE0 := Lib.hid (show firm ⟨bids, need⟩ = sumL (bids.map fun b => firmS b.2) by unfold firm; rw [if_pos hk])
  have HG := Lib.hid hg
  generalize firm ⟨bids, need⟩ = res at *
  have hnb6 : nb ≤ 6 := by have := HX.out.1; omega
  clear hk hg b6
  go_enter Tryz.func55, Tryz.ntmps55
  go_wp2_with fail
  have hBX := Blk.new w 46 #[.slice Ab nb cb, .slice Ar nr cr, .int .i64 need]
  have hb0 : Below w.heap.size w (w.alloc (.cells #[.slice Ab nb cb, .slice Ar nr cr, .int .i64 need] 46)) := (Below.refl _ _).alloc (Nat.le_refl _) _
  generalize w.alloc (.cells #[.slice Ab nb cb, .slice Ar nr cr, .int .i64 need] 46) = W at *
  have HST := Lib.hid (And.intro hb0 hBX)
  clear hb0 hBX
  go_loopw [3, 4] (fun tz t wr => ∃ (k : Nat) (z : Int), k ≤ nb ∧ t = .int .i64 k ∧ tz = .int .i64 z ∧ Hid ((Below w.heap.size w wr ∧ Blk wr w.heap.size 46 #[.slice Ab nb cb, .slice Ar nr cr, .int .i64 need]) ∧ res = z + sumL ((bids.drop k).map fun b => firmS b.2) ∧ 0 ≤ z ∧ z ≤ 3000000 * k)) (fun _ t _ => nb - (intOf t).toNat)
  case atStart => exact ⟨0, 0, Nat.zero_le _, rfl, rfl, HST.out, by rw [HE0.out]; simp, Int.le_refl _, Int.le_refl _⟩
  case round =>
    clear HST
    obtain ⟨k, z, hk, rfl, rfl, hR⟩ := hrel
    obtain ⟨wv, rfl⟩ : ∃ v, v = wr := ⟨_, rfl⟩
    obtain ⟨u0, u1, u2⟩ := (show wv.cell? ⟨w.heap.size, 0, none⟩ = some _ ∧ wv.cell? ⟨w.heap.size, 1, none⟩ = some _ ∧ wv.cell? ⟨w.heap.size, 2, none⟩ = some _ from ⟨(hR.out.1.2).cell 0, (hR.out.1.2).cell 1, (hR.out.1.2).cell 2⟩)
    by_cases hlt : k < nb
    · obtain ⟨b', o', rfl, hb', hc⟩ := HX.out.2 (by omega)
      obtain ⟨A', n', c', e0, e1, hst⟩ := hc k hlt
      have hkl : k < bids.length := by rw [HX.out.1]; exact hlt
      have hd := dropD (d := Bd0) hkl
      have hrel := hR.out.2.1
      rw [hd, List.map_cons, sumL] at hrel
      obtain ⟨_, q1, _, q2⟩ := chk_ok (HG.out _ (gmem (d := Bd0) hkl))
      obtain ⟨z1, z2⟩ := hR.out.2.2
      have HQ2 := Lib.hid q2
      have HSL := Lib.hid hst
      have hn3 : n' ≤ 3 := by have := hst.1; omega
      generalize (bids[k]?.getD Bd0).1 = bus at *
      generalize (bids[k]?.getD Bd0).2 = l at *
      generalize hrest : sumL ((bids.drop (k + 1)).map fun b => firmS b.2) = rest at *
      have HREST := Lib.hid hrest
      clear hrest
      have k1 : (0 : Int) ≤ (k : Int) := by omega
      have k2 : (k : Int) < (nb : Int) := by omega
      have HRL := Lib.hid hrel
      have HSK := Lib.hid hR.out.1
      have HC1 := Lib.hid (fun W (hW : Below w.heap.size w W) => (hW.cell (p := ⟨b', o' + k * 2 + 1, none⟩) hb').trans e1)
      clear hc e0 e1 hst hd hrel hkl q1 q2 hR
      go_wp2_with fail
      refine (T.out wv HSK.out.1).mono ?_
      rintro e w2 ⟨rfl, hb2⟩
      have HS2 := Lib.hid (And.intro (HSK.out.1.trans (hb2.mono HSK.out.1.size)) (HSK.out.2.below hb2 HSK.out.2.lt))
      clear hb2 HSK u0 u1 u2
      go_wp2_with fail
      go_loopw [3, 5] (fun tz t wr2 => ∃ (j : Nat) (y : Int), j ≤ n' ∧ t = .int .i64 j ∧ tz = .int .i64 y ∧ Hid ((Below w.heap.size w wr2 ∧ Blk wr2 w.heap.size 46 #[.slice (some ⟨b', o', none⟩) nb cb, .slice Ar nr cr, .int .i64 need]) ∧ res = y + (firmS (l.drop j) + rest) ∧ 0 ≤ y ∧ y ≤ 3000000 * k + 1000000 * j)) (fun _ t _ => n' - (intOf t).toNat)
      case atStart => exact ⟨0, z, Nat.zero_le _, rfl, rfl, HS2.out, by rw [HRL.out]; simp, z1, by omega⟩
      case round =>
        clear HS2 HRL z1 z2
        obtain ⟨j, y, hj, rfl, rfl, hR2⟩ := hrel
        obtain ⟨wu, rfl⟩ : ∃ v, v = wr := ⟨_, rfl⟩
        obtain ⟨u0, u1, u2⟩ := (show wu.cell? ⟨w.heap.size, 0, none⟩ = some _ ∧ wu.cell? ⟨w.heap.size, 1, none⟩ = some _ ∧ wu.cell? ⟨w.heap.size, 2, none⟩ = some _ from ⟨(hR2.out.1.2).cell 0, (hR2.out.1.2).cell 1, (hR2.out.1.2).cell 2⟩)
        have c1 := HC1.out wu hR2.out.1.1
        by_cases hlj : j < n'
        · obtain ⟨bs', os', rfl, hbs', hcs⟩ := HSL.out.2.2 (by omega)
          obtain ⟨s0', s1'⟩ := hcs j hlj
          have s0 := (hR2.out.1.1.cell (p := ⟨bs', _, none⟩) hbs').trans s0'
          have s1 := (hR2.out.1.1.cell (p := ⟨bs', _, none⟩) hbs').trans s1'
          have hjl : j < l.length := by rw [HSL.out.1]; exact hlj
          have hd := dropD (d := ((0, 0) : Int × Int)) hjl
          have hrel := hR2.out.2.1
          have hf : firmS (l.drop j) = (if (l[j]?.getD (0, 0)).2 = 1000000 then (l[j]?.getD (0, 0)).1 else 0) + firmS (l.drop (j + 1)) := by rw [hd]; rfl
          rw [hf] at hrel
          have hq := HQ2.out _ (gmem (d := ((0, 0) : Int × Int)) hjl)
          unfold Bad at hq
          obtain ⟨y1, y2⟩ := hR2.out.2.2
          generalize (l[j]?.getD (0, 0)).1 = sq at *
          generalize (l[j]?.getD (0, 0)).2 = sp at *
          generalize hrest2 : firmS (l.drop (j + 1)) = rest2 at *
          have HREST2 := Lib.hid hrest2
          clear hrest2 s0' s1' hcs
          have j1 : (0 : Int) ≤ (j : Int) := by omega
          have j2 : (j : Int) < (n' : Int) := by omega
          have wl : IntKind.i64.wrap (y + sq) = y + sq := IntWalk.i64_in _ (by omega)
          have HSK := Lib.hid hR2.out.1
          have HRL := Lib.hid hrel
          clear hd hrel hf hjl hR2
          by_cases g : sp = 1000000
          · have hb : (sp == 1000000) = true := by simpa using g
            have HRL2 := Lib.hid (by have h9 := HRL.out; rw [if_pos g] at h9; exact h9)
            clear HRL g
            go_wp2
            go_roundw
            case rel => exact ⟨j + 1, y + sq, by omega, by go_num, rfl, HSK.out, by rw [HREST2.out, HRL2.out]; omega, by omega, by omega⟩
            case measure => simp [intOf]; omega
          · have hb : (sp == 1000000) = false := by simpa using g
            have HRL2 := Lib.hid (by have h9 := HRL.out; rw [if_neg g] at h9; exact h9)
            clear HRL g
            go_wp2
            go_roundw
            case rel => exact ⟨j + 1, y, by omega, by go_num, rfl, HSK.out, by rw [HREST2.out, HRL2.out]; omega, by omega, by omega⟩
            case measure => simp [intOf]; omega
        · obtain rfl : n' = j := by omega
          have hrel := hR2.out.2.1
          rw [List.drop_eq_nil_of_le (by rw [HSL.out.1]; exact Nat.le_refl _)] at hrel
          have HF := Lib.hid (show res = y + rest by rw [hrel]; show y + (0 + rest) = y + rest; omega)
          have HBW := Lib.hid hR2.out.1
          obtain ⟨y1, y2⟩ := hR2.out.2.2
          clear hrel hR2
          go_wp2
          go_roundw
          case rel => exact ⟨k + 1, y, by omega, by go_num, rfl, HBW.out, by rw [HREST.out]; exact HF.out, by omega, by omega⟩
          case measure => simp [intOf]; omega
    · obtain rfl : nb = k := by omega
      have hrel := hR.out.2.1
      rw [List.drop_eq_nil_of_le (by rw [HX.out.1]; exact Nat.le_refl _)] at hrel
      have HF := Lib.hid (show res = z by rw [hrel]; show z + 0 = z; omega)
      have HBW := Lib.hid hR.out.1.1
      clear hrel hR
      go_wp2
      go_ret
      exact ⟨by rw [HF.out]; rfl, HBW.out⟩

theorem rfirm_raw (Ab Ar : Option Addr) (nb cb nr cr : Nat) (need : Int) (bids : List Bd) (w : World) (h : BdAt w Ab nb bids) :
    Calls Tryz.prog 55 #[.agg #[.slice Ab nb cb, .slice Ar nr cr, .int .i64 need]] w fun e w' => e = .returned (.int .i64 (firm ⟨bids, need⟩)) ∧ Below w.heap.size w w' := by
  by_cases hk : hchk ⟨bids, need⟩ = 0
  · exact rfirm_ok Ab Ar nb cb nr cr need bids w h hk
  · have e : firm ⟨bids, need⟩ = 0 := by unfold firm; rw [if_neg hk]
    rw [e]
    exact rfirm_bad Ab Ar nb cb nr cr need bids w h hk

end Go.Proofs.YtdoeejcmaeefcaaGreat

namespace Go.Proofs.YtdoeejcmaeefcaaGreat
set_option linter.unusedVariables false
set_option linter.unusedSimpArgs false
open Go.RowKit
open Wd
open Cm

set_option maxRecDepth 100000 in
set_option maxHeartbeats 4000000 in
theorem r29check_raw (A B : Option Addr) (n c m d : Nat) (us : List Un) (hs : List Hr) (w : World) (h : UsAt w A n us) (h' : HsAt w B m hs) :
    Calls Tryz.prog 34 #[.slice A n c, .slice B m d] w fun e w' => e = .returned (.int .i64 (cchk us hs)) ∧ Below w.heap.size w w' := by
  by_cases h5 : 5 < n
  · have HE := Lib.hid (show cchk us hs = 5 by unfold cchk; rw [if_pos (by rw [h.1]; exact h5)])
    have h5i : (5 : Int) < (n : Int) := by omega
    clear h h'
    go_enter Tryz.func34, Tryz.ntmps34
    go_wp2
    go_ret
    exact ⟨by rw [HE.out]; rfl, Below.refl _ _⟩
  · have HE := Lib.hid (show cchk us hs = if ecFrom us ≠ 0 then ecFrom us else if m = 0 then 4 else if 8 < m then 5 else hcFrom hs by unfold cchk; rw [if_neg (by rw [h.1]; exact h5), h'.1])
    have h5i : ¬ (5 : Int) < (n : Int) := by omega
    generalize cchk us hs = res at *
    have HL := Lib.hid h.1
    have HC := Lib.hid h.2
    have HX := Lib.hid h'
    clear h h'
    go_enter Tryz.func34, Tryz.ntmps34
    go_wp2_with fail
    go_loopw [5] (fun t wr => ∃ k : Nat, k ≤ n ∧ t = .int .i64 k ∧ Hid (ecFrom us = ecFrom (us.drop k)) ∧ Hid (Below w.heap.size w wr)) (fun t _ => n - (intOf t).toNat)
    case atStart => exact ⟨0, Nat.zero_le _, rfl, rfl, Below.refl _ _⟩
    case round =>
      obtain ⟨k, hk, rfl, hR, hB⟩ := hrel
      by_cases hlt : k < n
      · obtain ⟨b, o, rfl, hb, hcell⟩ := HC.out (by omega)
        have hu := (hcell k hlt).below hb hB.out
        have hdr := dropU (l := us) (k := k) (by rw [HL.out]; exact hlt)
        generalize us[k]?.getD U0 = u at *
        obtain ⟨bus, mn, st, up, dn, start, idle, spin, on⟩ := u
        obtain ⟨A', n', c', ⟨h0, h1, h2, h3, h4, h5', h6, h7, h8⟩, hs0, hn'⟩ := hu
        simp only at h0 h1 h2 h3 h4 h5' h6 h7 h8 hs0
        have hbr : b < wr.heap.size := Nat.lt_of_lt_of_le hb hB.out.size
        have HDR := Lib.hid hdr
        clear hdr hcell
        have HB9 := hB
        have T := fun W hW => rucheck_raw bus mn up dn start idle spin on A' n' c' st W hW
        have HS9 := Lib.hid hs0
        clear hs0
        by_cases hz : uchk (⟨bus, mn, st, up, dn, start, idle, spin, on⟩ : Un) = 0
        · have HN := Lib.hid (show ecFrom us = ecFrom (us.drop (k + 1)) by rw [hR.out, HDR.out]; exact ecFrom_ok hz)
          rw [hz] at T
          have T := Lib.hid T
          clear hz
          go_wp2_with fail
          refine (T.out _ HS9.out).mono ?_
          rintro e w2 ⟨rfl, hb2⟩
          have HB3 := Lib.hid (HB9.out.trans (hb2.mono HB9.out.size))
          clear hb2 h0 h1 h2 h3 h4 h5' h6 h7 h8
          go_wp2
          go_roundw
          case rel => exact ⟨k + 1, by omega, by go_num, HN.out, HB3.out⟩
          case measure => simp [intOf]; omega
        · have hx : ecFrom us = uchk (⟨bus, mn, st, up, dn, start, idle, spin, on⟩ : Un) := by rw [hR.out, HDR.out]; exact ecFrom_bad hz
          have HF := Lib.hid (show res = uchk (⟨bus, mn, st, up, dn, start, idle, spin, on⟩ : Un) by rw [HE.out, if_pos (by rw [hx]; exact hz), hx])
          generalize uchk (⟨bus, mn, st, up, dn, start, idle, spin, on⟩ : Un) = x at *
          have hxz : (x != 0) = true := by simpa using hz
          have T := Lib.hid T
          clear hz hx
          go_wp2_with fail
          refine (T.out _ HS9.out).mono ?_
          rintro e w2 ⟨rfl, hb2⟩
          have HB3 := Lib.hid (HB9.out.trans (hb2.mono HB9.out.size))
          clear hb2 h0 h1 h2 h3 h4 h5' h6 h7 h8 T
          go_wp2
          go_ret
          exact ⟨by rw [HF.out]; rfl, HB3.out⟩
      · obtain rfl : n = k := by omega
        have hz : ecFrom us = 0 := by rw [hR.out, List.drop_eq_nil_of_le (by rw [HL.out]; exact Nat.le_refl _)]; rfl
        have HE2 := Lib.hid (HE.out.trans (if_neg (by rw [hz]; simp)))
        have HB := Lib.hid hB.out
        clear hz hR hB HE
        by_cases m0 : m = 0
        · have HE3 := Lib.hid (HE2.out.trans (if_pos m0))
          have hb : ((m : Int) == 0) = true := by simp [m0]
          clear HE2 m0
          go_wp2
          go_ret
          exact ⟨by rw [HE3.out]; rfl, HB.out⟩
        · have hb : ((m : Int) == 0) = false := by simp [m0]
          have HE3 := Lib.hid (HE2.out.trans (if_neg m0))
          clear HE2
          by_cases m8 : 8 < m
          · have HE4 := Lib.hid (HE3.out.trans (if_pos m8))
            have h8i : (8 : Int) < (m : Int) := by omega
            clear HE3
            go_wp2
            go_ret
            exact ⟨by rw [HE4.out]; rfl, HB.out⟩
          · have HE4 := Lib.hid (HE3.out.trans (if_neg m8))
            have h8i : ¬ (8 : Int) < (m : Int) := by omega
            clear HE3
            go_wp2_with fail
            go_loopw [7] (fun t wr2 => ∃ k : Nat, k ≤ m ∧ t = .int .i64 k ∧ Hid (hcFrom hs = hcFrom (hs.drop k) ∧ Below w.heap.size w wr2)) (fun t _ => m - (intOf t).toNat)
            case atStart => exact ⟨0, Nat.zero_le _, rfl, rfl, HB.out⟩
            case round =>
              clear HB
              obtain ⟨k, hk, rfl, hR⟩ := hrel
              obtain ⟨wu, rfl⟩ : ∃ v, v = wr := ⟨_, rfl⟩
              by_cases hlt : k < m
              · obtain ⟨b, o, rfl, hb', hcell⟩ := HX.out.2 (by omega)
                obtain ⟨Ab, nb, cb, Ar, nr, cr, e0, e1, e2, hbd⟩ := hcell k hlt
                have hkl : k < hs.length := by rw [HX.out.1]; exact hlt
                have hdr := dropD (d := Hr0) hkl
                have c0 := (hR.out.2.cell (p := ⟨b, o + k * 3, none⟩) hb').trans e0
                have c1 := (hR.out.2.cell (p := ⟨b, o + k * 3 + 1, none⟩) hb').trans e1
                have c2 := (hR.out.2.cell (p := ⟨b, o + k * 3 + 2, none⟩) hb').trans e2
                have hbd2 := hbd.below hR.out.2
                have hrel := hR.out.1
                rw [hdr] at hrel
                generalize hs[k]?.getD Hr0 = hh at *
                obtain ⟨bids, need⟩ := hh
                simp only at c0 c1 c2 hbd2
                have T := rhour_raw Ab Ar nb cb nr cr need bids wu hbd2
                have HB9 := Lib.hid hR.out.2
                have HRL := Lib.hid hrel
                clear hcell e0 e1 e2 hbd hkl hdr hbd2 hrel hR
                by_cases hz : hchk ⟨bids, need⟩ = 0
                · have HN := Lib.hid (HRL.out.trans (hcFrom_good hz))
                  rw [hz] at T
                  have T := Lib.hid T
                  clear hz HRL
                  go_wp2_with fail
                  refine T.out.mono ?_
                  rintro e w2 ⟨rfl, hb2⟩
                  have HB3 := Lib.hid (HB9.out.trans (hb2.mono HB9.out.size))
                  clear hb2 T c0 c1 c2
                  go_wp2
                  go_roundw
                  case rel => exact ⟨k + 1, by omega, by go_num, HN.out, HB3.out⟩
                  case measure => simp [intOf]; omega
                · have hx := HRL.out.trans (hcFrom_bad hz)
                  have HF := Lib.hid (HE4.out.trans hx)
                  generalize hchk ⟨bids, need⟩ = x at *
                  have hxz : (x != 0) = true := by simpa using hz
                  have T := Lib.hid T
                  clear hz hx HRL
                  go_wp2_with fail
                  refine T.out.mono ?_
                  rintro e w2 ⟨rfl, hb2⟩
                  have HB3 := Lib.hid (HB9.out.trans (hb2.mono HB9.out.size))
                  clear hb2 T c0 c1 c2
                  go_wp2
                  go_ret
                  exact ⟨by rw [HF.out]; rfl, HB3.out⟩
              · obtain rfl : m = k := by omega
                have hz : hcFrom hs = 0 := by rw [hR.out.1, List.drop_eq_nil_of_le (by rw [HX.out.1]; exact Nat.le_refl _)]; rfl
                have HF := Lib.hid (HE4.out.trans hz)
                have HB := Lib.hid hR.out.2
                clear hz hR
                go_wp2
                go_ret
                exact ⟨by rw [HF.out]; rfl, HB.out⟩

end Go.Proofs.YtdoeejcmaeefcaaGreat

namespace Go.Proofs.YtdoeejcmaeefcaaGreat
set_option linter.unusedVariables false
set_option linter.unusedSimpArgs false
open Go.RowKit
open Wd
open Cm

set_option maxRecDepth 100000 in
set_option maxHeartbeats 1000000 in
theorem rmay_raw (bus mn up dn start idle spin on : Int) (A : Option Addr) (n c : Nat) (l : List (Int × Int)) (w : World) (h : StAt w A n l) (hv : uchk (⟨bus, mn, l, up, dn, start, idle, spin, on⟩ : Un) = 0) :
    Calls Tryz.prog 70 #[.agg #[.int .i64 bus, .int .i64 mn, .slice A n c, .int .i64 up, .int .i64 dn, .int .i64 start, .int .i64 idle, .int .i64 spin, .int .i64 on]] w fun e w' => e = .returned (.bool true) ∧ Below w.heap.size w w' := by
  have T := Lib.hid (fun W (hW : Below w.heap.size w W) => rucheck_raw bus mn up dn start idle spin on A n c l W (h.below hW))
  rw [hv] at T
  clear h hv
  go_enter Tryz.func70, Tryz.ntmps70
  go_wp2_with fail
  have hBX := Blk.new w 39 #[.int .i64 bus, .int .i64 mn, .slice A n c, .int .i64 up, .int .i64 dn, .int .i64 start, .int .i64 idle, .int .i64 spin, .int .i64 on]
  obtain ⟨u0, u1, u2, u3, u4, u5, u6, u7, u8⟩ := hBX.nine
  have hb0 : Below w.heap.size w (w.alloc (.cells #[.int .i64 bus, .int .i64 mn, .slice A n c, .int .i64 up, .int .i64 dn, .int .i64 start, .int .i64 idle, .int .i64 spin, .int .i64 on] 39)) := (Below.refl _ _).alloc (Nat.le_refl _) _
  generalize w.alloc (.cells #[.int .i64 bus, .int .i64 mn, .slice A n c, .int .i64 up, .int .i64 dn, .int .i64 start, .int .i64 idle, .int .i64 spin, .int .i64 on] 39) = W at *
  refine (T.out W hb0).mono ?_
  rintro e w1 ⟨rfl, hb1⟩
  have HB := Lib.hid (hb0.trans (hb1.mono hb0.size))
  clear hb1 hb0 hBX u0 u1 u2 u3 u4 u5 u6 u7 u8 T
  go_wp2
  go_ret
  exact ⟨rfl, HB.out⟩

set_option maxRecDepth 100000 in
set_option maxHeartbeats 4000000 in
theorem rstarts_raw (bus mn up dn start idle spin on : Int) (A : Option Addr) (n c : Nat) (l : List (Int × Int)) (B : Option Addr) (m d : Nat) (bs : List Bool) (w : World) (h : StAt w A n l) (hv : uchk (⟨bus, mn, l, up, dn, start, idle, spin, on⟩ : Un) = 0) (hB : BsAt w B m bs) (hmm : m ≤ 1000) :
    Calls Tryz.prog 71 #[.agg #[.int .i64 bus, .int .i64 mn, .slice A n c, .int .i64 up, .int .i64 dn, .int .i64 start, .int .i64 idle, .int .i64 spin, .int .i64 on], .slice B m d] w fun e w' => e = .returned (.int .i64 (ustarts (decide (0 < on)) bs)) ∧ Below w.heap.size w w' := by
  have T := Lib.hid (fun W (hW : Below w.heap.size w W) => rmay_raw bus mn up dn start idle spin on A n c l W (h.below hW) hv)
  have HBS := Lib.hid hB
  clear h hv hB
  go_enter Tryz.func71, Tryz.ntmps71
  go_wp2_with fail
  have hBX := Blk.new w 39 #[.int .i64 bus, .int .i64 mn, .slice A n c, .int .i64 up, .int .i64 dn, .int .i64 start, .int .i64 idle, .int .i64 spin, .int .i64 on]
  obtain ⟨u0, u1, u2, u3, u4, u5, u6, u7, u8⟩ := hBX.nine
  have hb0 : Below w.heap.size w (w.alloc (.cells #[.int .i64 bus, .int .i64 mn, .slice A n c, .int .i64 up, .int .i64 dn, .int .i64 start, .int .i64 idle, .int .i64 spin, .int .i64 on] 39)) := (Below.refl _ _).alloc (Nat.le_refl _) _
  generalize w.alloc (.cells #[.int .i64 bus, .int .i64 mn, .slice A n c, .int .i64 up, .int .i64 dn, .int .i64 start, .int .i64 idle, .int .i64 spin, .int .i64 on] 39) = W at *
  have HST := Lib.hid (And.intro hb0 hBX)
  clear hb0 hBX
  go_wp2_with fail
  clear u0 u1 u2 u3 u4 u5 u6 u7 u8
  go_loopw [5, 6, 7] (fun ts tp t wr => ∃ (k : Nat) (z : Int) (q : Bool), k ≤ m ∧ t = .int .i64 k ∧ ts = .int .i64 z ∧ tp = .bool q ∧ Hid (Below w.heap.size w wr ∧ Blk wr w.heap.size 39 #[.int .i64 bus, .int .i64 mn, .slice A n c, .int .i64 up, .int .i64 dn, .int .i64 start, .int .i64 idle, .int .i64 spin, .int .i64 on] ∧ ustarts (decide (0 < on)) bs = z + ustarts q (bs.drop k) ∧ 0 ≤ z ∧ z ≤ k)) (fun _ _ t _ => m - (intOf t).toNat)
  case atStart => exact ⟨0, 0, decide (0 < on), Nat.zero_le _, rfl, rfl, rfl, HST.out.1, HST.out.2, by simp, Int.le_refl _, Int.le_refl _⟩
  case round =>
    clear HST
    obtain ⟨k, z, q, hk, rfl, rfl, rfl, hR⟩ := hrel
    obtain ⟨wv, rfl⟩ : ∃ v, v = wr := ⟨_, rfl⟩
    obtain ⟨u0, u1, u2, u3, u4, u5, u6, u7, u8⟩ := hR.out.2.1.nine
    by_cases hlt : k < m
    · obtain ⟨b', o', rfl, hb', hc⟩ := HBS.out.2 (by omega)
      have hcl0 := hc k hlt
      have HCL := Lib.hid (fun W (hW : Below w.heap.size w W) => (hW.cell (p := ⟨b', o' + k, none⟩) hb').trans hcl0)
      have hd := dropB (bs := bs) (k := k) (by rw [HBS.out.1]; exact hlt)
      have hrel := hR.out.2.2.1
      rw [hd, ustarts] at hrel
      obtain ⟨z1, z2⟩ := hR.out.2.2.2
      generalize bs[k]?.getD false = b at *
      have HBW := Lib.hid (And.intro hR.out.1 hR.out.2.1)
      have HRL := Lib.hid hrel
      have k1 : (0 : Int) ≤ (k : Int) := by omega
      have k2 : (k : Int) < (m : Int) := by omega
      have wl : IntKind.i64.wrap (z + 1) = z + 1 := IntWalk.i64_in _ (by omega)
      clear hc hcl0 hd hrel hR
      go_wp2_with fail
      refine (T.out wv HBW.out.1).mono ?_
      rintro e w2 ⟨rfl, hb2⟩
      have HB2 := Lib.hid (And.intro (HBW.out.1.trans (hb2.mono HBW.out.1.size)) (HBW.out.2.below hb2 HBW.out.2.lt))
      have hcl := HCL.out w2 HB2.out.1
      clear hb2 HBW u0 u1 u2 u3 u4 u5 u6 u7 u8
      cases b <;> cases q
      · go_wp2
        go_roundw
        case rel => exact ⟨k + 1, z, false, by omega, by go_num, rfl, rfl, HB2.out.1, HB2.out.2, by have := HRL.out; simp at this; exact this, by omega, by omega⟩
        case measure => simp [intOf]; omega
      · go_wp2
        go_roundw
        case rel => exact ⟨k + 1, z, false, by omega, by go_num, rfl, rfl, HB2.out.1, HB2.out.2, by have := HRL.out; simp at this; exact this, by omega, by omega⟩
        case measure => simp [intOf]; omega
      · have hnf : (!false) = true := rfl
        go_wp2
        go_roundw
        case rel => exact ⟨k + 1, z + 1, true, by omega, by go_num, rfl, rfl, HB2.out.1, HB2.out.2, by have := HRL.out; simp at this; omega, by omega, by omega⟩
        case measure => simp [intOf]; omega
      · have hnf : (!true) = false := rfl
        go_wp2
        go_roundw
        case rel => exact ⟨k + 1, z, true, by omega, by go_num, rfl, rfl, HB2.out.1, HB2.out.2, by have := HRL.out; simp at this; exact this, by omega, by omega⟩
        case measure => simp [intOf]; omega
    · obtain rfl : m = k := by omega
      have hrel := hR.out.2.2.1
      rw [List.drop_eq_nil_of_le (by rw [HBS.out.1]; exact Nat.le_refl _), ustarts, Int.add_zero] at hrel
      have HF := Lib.hid hrel
      have HBW := Lib.hid hR.out.1
      clear hrel hR
      go_wp2
      go_ret
      exact ⟨by rw [HF.out]; rfl, HBW.out⟩

set_option maxRecDepth 100000 in
set_option maxHeartbeats 4000000 in
theorem rfixed_raw (bus mn up dn start idle spin on : Int) (A : Option Addr) (n c : Nat) (l : List (Int × Int)) (B : Option Addr) (m d : Nat) (bs : List Bool) (w : World) (h : StAt w A n l) (hv : uchk (⟨bus, mn, l, up, dn, start, idle, spin, on⟩ : Un) = 0) (hB : BsAt w B m bs) (hmm : m ≤ 1000) :
    Calls Tryz.prog 54 #[.agg #[.int .i64 bus, .int .i64 mn, .slice A n c, .int .i64 up, .int .i64 dn, .int .i64 start, .int .i64 idle, .int .i64 spin, .int .i64 on], .slice B m d] w fun e w' => e = .returned (.int .i64 (ucost (⟨bus, mn, l, up, dn, start, idle, spin, on⟩ : Un) bs)) ∧ Below w.heap.size w w' := by
  have T := Lib.hid (fun W (hW : Below w.heap.size w W) => rmay_raw bus mn up dn start idle spin on A n c l W (h.below hW) hv)
  have TS := Lib.hid (fun W (hW : Below w.heap.size w W) => rstarts_raw bus mn up dn start idle spin on A n c l B m d bs W (h.below hW) hv (hB.below hW) hmm)
  have hr := uchk_rest hv
  simp only at hr
  obtain ⟨-, -, -, -, r1, r2, r3, r4, -⟩ := hr
  have HBS := Lib.hid hB
  have HU := Lib.hid (show ucost (⟨bus, mn, l, up, dn, start, idle, spin, on⟩ : Un) bs = start * ustarts (decide (0 < on)) bs + idle * uon bs from rfl)
  have hsb := ustarts_bd (decide (0 < on)) bs
  rw [hB.1] at hsb
  generalize ucost (⟨bus, mn, l, up, dn, start, idle, spin, on⟩ : Un) bs = uc at *
  generalize ustarts (decide (0 < on)) bs = zs at *
  have hp1 : 0 ≤ zs * start := Int.mul_nonneg hsb.1 r1
  have hp2 : zs * start ≤ 1000000000 * 1000 := by rw [Int.mul_comm]; exact Int.le_trans (Int.mul_le_mul_of_nonneg_right r2 hsb.1) (Int.mul_le_mul_of_nonneg_left (by omega) (by omega))
  have wl : IntKind.i64.wrap (zs * start) = zs * start := IntWalk.i64_in _ (by omega)
  clear h hv hB hsb
  go_enter Tryz.func54, Tryz.ntmps54
  go_wp2_with fail
  have hBX := Blk.new w 39 #[.int .i64 bus, .int .i64 mn, .slice A n c, .int .i64 up, .int .i64 dn, .int .i64 start, .int .i64 idle, .int .i64 spin, .int .i64 on]
  obtain ⟨u0, u1, u2, u3, u4, u5, u6, u7, u8⟩ := hBX.nine
  have hb0 : Below w.heap.size w (w.alloc (.cells #[.int .i64 bus, .int .i64 mn, .slice A n c, .int .i64 up, .int .i64 dn, .int .i64 start, .int .i64 idle, .int .i64 spin, .int .i64 on] 39)) := (Below.refl _ _).alloc (Nat.le_refl _) _
  generalize w.alloc (.cells #[.int .i64 bus, .int .i64 mn, .slice A n c, .int .i64 up, .int .i64 dn, .int .i64 start, .int .i64 idle, .int .i64 spin, .int .i64 on] 39) = W at *
  refine (T.out W hb0).mono ?_
  rintro e w1 ⟨rfl, hb1⟩
  have HBX := Lib.hid (hBX.below hb1 hBX.lt)
  obtain ⟨v0, v1, v2, v3, v4, v5, v6, v7, v8⟩ := HBX.out.nine
  have HB := Lib.hid (hb0.trans (hb1.mono hb0.size))
  clear hb1 hb0 hBX u0 u1 u2 u3 u4 u5 u6 u7 u8 T
  go_wp2_with fail
  have hS : ∀ w', Kp w1 w' → (w'.cell? ⟨w.heap.size, 0, none⟩ = some (.int .i64 bus) ∧ w'.cell? ⟨w.heap.size, 1, none⟩ = some (.int .i64 mn) ∧ w'.cell? ⟨w.heap.size, 2, none⟩ = some (.slice A n c) ∧ w'.cell? ⟨w.heap.size, 3, none⟩ = some (.int .i64 up) ∧ w'.cell? ⟨w.heap.size, 4, none⟩ = some (.int .i64 dn) ∧ w'.cell? ⟨w.heap.size, 5, none⟩ = some (.int .i64 start) ∧ w'.cell? ⟨w.heap.size, 6, none⟩ = some (.int .i64 idle) ∧ w'.cell? ⟨w.heap.size, 7, none⟩ = some (.int .i64 spin) ∧ w'.cell? ⟨w.heap.size, 8, none⟩ = some (.int .i64 on)) ∧ Kp w1 w' := fun w' hk => ⟨(hk.blk HBX.out).nine, hk⟩
  have HS := Lib.hid hS
  have hk0 := Kp.refl w1
  clear hS v0 v1 v2 v3 v4 v5 v6 v7 v8
  go_region_held3 (fun w' => (w'.cell? ⟨w.heap.size, 0, none⟩ = some (.int .i64 bus) ∧ w'.cell? ⟨w.heap.size, 1, none⟩ = some (.int .i64 mn) ∧ w'.cell? ⟨w.heap.size, 2, none⟩ = some (.slice A n c) ∧ w'.cell? ⟨w.heap.size, 3, none⟩ = some (.int .i64 up) ∧ w'.cell? ⟨w.heap.size, 4, none⟩ = some (.int .i64 dn) ∧ w'.cell? ⟨w.heap.size, 5, none⟩ = some (.int .i64 start) ∧ w'.cell? ⟨w.heap.size, 6, none⟩ = some (.int .i64 idle) ∧ w'.cell? ⟨w.heap.size, 7, none⟩ = some (.int .i64 spin) ∧ w'.cell? ⟨w.heap.size, 8, none⟩ = some (.int .i64 on)) ∧ Kp w1 w')
    (first | (with_reducible refine HS.out _ ?_; with_reducible assumption) | (with_reducible refine HS.out _ (Kp.drew ?_); with_reducible assumption) | (with_reducible refine' HS.out _ (Kp.drew (And.right ?_)); rotate_left; with_reducible assumption))
    (first
      | (go_at_call 71; have hk := And.right ‹_ ∧ Kp w1 _›; refine (TS.out _ (HB.out.trans (Below.mono hk HB.out.size))).mono ?_; rintro e w2 ⟨rfl, hb2⟩; have hk2 := Kp.trans hk hb2; clear hk hb2))
  have HB2 := Lib.hid (HB.out.trans (Below.mono hk2 HB.out.size))
  have HBX2 := Lib.hid (Kp.blk hk2 HBX.out)
  clear HB HBX HS TS hk0 hk2
  have HU2 := Lib.hid (show uc = zs * start + idle * uon bs by rw [HU.out, Int.mul_comm start zs])
  clear HU
  generalize zs * start = z0 at *
  go_wp2_with fail
  go_loopw [5, 6] (fun ts t wr => ∃ (k : Nat) (z : Int), k ≤ m ∧ t = .int .i64 k ∧ ts = .int .i64 z ∧ Hid (Below w.heap.size w wr ∧ Blk wr w.heap.size 39 #[.int .i64 bus, .int .i64 mn, .slice A n c, .int .i64 up, .int .i64 dn, .int .i64 start, .int .i64 idle, .int .i64 spin, .int .i64 on] ∧ uc = z + idle * uon (bs.drop k) ∧ 0 ≤ z ∧ z ≤ 1000000000000 + 1000000000 * k)) (fun _ t _ => m - (intOf t).toNat)
  case atStart => exact ⟨0, z0, Nat.zero_le _, rfl, rfl, HB2.out, HBX2.out, by rw [HU2.out]; simp, hp1, by omega⟩
  case round =>
    clear HB2 HBX2
    obtain ⟨k, z, hk, rfl, rfl, hR⟩ := hrel
    by_cases hlt : k < m
    · obtain ⟨b', o', rfl, hb', hc⟩ := HBS.out.2 (by omega)
      have hcl := (hR.out.1.cell (p := ⟨b', o' + k, none⟩) hb').trans (hc k hlt)
      have hd := dropB (bs := bs) (k := k) (by rw [HBS.out.1]; exact hlt)
      obtain ⟨v0, v1, v2, v3, v4, v5, v6, v7, v8⟩ := hR.out.2.1.nine
      have hrel := hR.out.2.2.1
      rw [hd, uon, Int.mul_add] at hrel
      obtain ⟨z1, z2⟩ := hR.out.2.2.2
      generalize bs[k]?.getD false = b at *
      have HBW := Lib.hid (And.intro hR.out.1 hR.out.2.1)
      have HRL := Lib.hid hrel
      have k1 : (0 : Int) ≤ (k : Int) := by omega
      have k2 : (k : Int) < (m : Int) := by omega
      have wl2 : IntKind.i64.wrap (z + idle) = z + idle := IntWalk.i64_in _ (by omega)
      clear hc hd hrel hR
      cases b
      · go_wp2
        go_roundw
        case rel => exact ⟨k + 1, z, by omega, by go_num, rfl, HBW.out.1, HBW.out.2, by have := HRL.out; simp at this; exact this, by omega, by omega⟩
        case measure => simp [intOf]; omega
      · go_wp2
        go_roundw
        case rel => exact ⟨k + 1, z + idle, by omega, by go_num, rfl, HBW.out.1, HBW.out.2, by have := HRL.out; simp at this; omega, by omega, by omega⟩
        case measure => simp [intOf]; omega
    · obtain rfl : m = k := by omega
      have hrel := hR.out.2.2.1
      rw [List.drop_eq_nil_of_le (by rw [HBS.out.1]; exact Nat.le_refl _), uon, Int.mul_zero, Int.add_zero] at hrel
      have HF := Lib.hid hrel
      have HBW := Lib.hid hR.out.1
      clear hrel hR
      go_wp2
      go_ret
      exact ⟨by rw [HF.out]; rfl, HBW.out⟩

end Go.Proofs.YtdoeejcmaeefcaaGreat

namespace Go.Proofs.YtdoeejcmaeefcaaGreat
set_option linter.unusedVariables false
set_option linter.unusedSimpArgs false
open Go.RowKit
open Wd
open Cm

/-- The reference's count of hours beside the program's state. -/
def FsR (u : Un) (on : Bool) (y s : Int) : Prop := 1 ≤ y ∧ s = if on then min y u.up else max (-y) (-u.dn)
theorem ufeas_of {u : Un} {s t : Int} {b : Bool} {r : List Bool} (h : unext u s b = some t) : ufeas u s (b :: r) = ufeas u t r := by rw [ufeas, h]
theorem fs_same {u : Un} (h1 : 1 ≤ u.up) (h2 : 1 ≤ u.dn) {on : Bool} {y s : Int} (hr : FsR u on y s) {bs : List Bool} : ∃ t, FsR u on (y + 1) t ∧ ufeas u s (on :: bs) = ufeas u t bs := by
  obtain ⟨hy, hs⟩ := hr
  cases on
  · simp at hs
    refine ⟨max (-(y + 1)) (-u.dn), ⟨by omega, by simp⟩, ?_⟩
    have e : unext u s false = some (max (-(y + 1)) (-u.dn)) := by
      unfold unext
      rw [if_neg (by simp), if_neg (by simp), if_pos ⟨rfl, by omega⟩]
      congr 1
      omega
    exact ufeas_of e
  · simp at hs
    refine ⟨min (y + 1) u.up, ⟨by omega, by simp⟩, ?_⟩
    have e : unext u s true = some (min (y + 1) u.up) := by
      unfold unext
      rw [if_pos ⟨rfl, by omega⟩]
      congr 1
      omega
    exact ufeas_of e
theorem fs_up {u : Un} (h1 : 1 ≤ u.up) (h2 : 1 ≤ u.dn) {y s : Int} (hr : FsR u true y s) (hl : u.up ≤ y) {bs : List Bool} : ∃ t, FsR u false 1 t ∧ ufeas u s (false :: bs) = ufeas u t bs := by
  obtain ⟨hy, hs⟩ := hr
  simp at hs
  refine ⟨-1, ⟨by omega, by simp; omega⟩, ?_⟩
  have e : unext u s false = some (-1) := by
    unfold unext
    rw [if_neg (by simp), if_neg (by simp), if_neg (by simp; omega), if_pos ⟨rfl, by omega⟩]
  exact ufeas_of e
theorem fs_upno {u : Un} (h1 : 1 ≤ u.up) (h2 : 1 ≤ u.dn) {y s : Int} (hr : FsR u true y s) (hl : y < u.up) {bs : List Bool} : ufeas u s (false :: bs) = false := by
  obtain ⟨hy, hs⟩ := hr
  simp at hs
  have e : unext u s false = none := by
    unfold unext
    rw [if_neg (by simp), if_neg (by simp), if_neg (by simp; omega), if_neg (by simp; omega)]
  rw [ufeas, e]
theorem fs_dn {u : Un} (h1 : 1 ≤ u.up) (h2 : 1 ≤ u.dn) {y s : Int} (hr : FsR u false y s) (hl : u.dn ≤ y) {bs : List Bool} : ∃ t, FsR u true 1 t ∧ ufeas u s (true :: bs) = ufeas u t bs := by
  obtain ⟨hy, hs⟩ := hr
  simp at hs
  refine ⟨1, ⟨by omega, by simp; omega⟩, ?_⟩
  have e : unext u s true = some 1 := by
    unfold unext
    rw [if_neg (by simp; omega), if_pos ⟨rfl, by omega⟩]
  exact ufeas_of e
theorem fs_dnno {u : Un} (h1 : 1 ≤ u.up) (h2 : 1 ≤ u.dn) {y s : Int} (hr : FsR u false y s) (hl : y < u.dn) {bs : List Bool} : ufeas u s (true :: bs) = false := by
  obtain ⟨hy, hs⟩ := hr
  simp at hs
  have e : unext u s true = none := by
    unfold unext
    rw [if_neg (by simp; omega), if_neg (by simp; omega), if_neg (by simp), if_neg (by simp)]
  rw [ufeas, e]

set_option maxRecDepth 100000 in
set_option maxHeartbeats 4000000 in
theorem rfeasible_raw (bus mn up dn start idle spin on : Int) (A : Option Addr) (n c : Nat) (l : List (Int × Int)) (B : Option Addr) (m d : Nat) (bs : List Bool) (w : World) (h : StAt w A n l) (hv : uchk (⟨bus, mn, l, up, dn, start, idle, spin, on⟩ : Un) = 0) (hB : BsAt w B m bs) (hmm : m ≤ 1000) :
    Calls Tryz.prog 53 #[.agg #[.int .i64 bus, .int .i64 mn, .slice A n c, .int .i64 up, .int .i64 dn, .int .i64 start, .int .i64 idle, .int .i64 spin, .int .i64 on], .slice B m d] w fun e w' => e = .returned (.bool (ufeas (⟨bus, mn, l, up, dn, start, idle, spin, on⟩ : Un) (uinit (⟨bus, mn, l, up, dn, start, idle, spin, on⟩ : Un)) bs)) ∧ Below w.heap.size w w' := by
  have T := Lib.hid (fun W (hW : Below w.heap.size w W) => rmay_raw bus mn up dn start idle spin on A n c l W (h.below hW) hv)
  have hr := uchk_rest hv
  simp only at hr
  obtain ⟨r1, r2, r3, r4, -, -, -, -, r5, r6, r7⟩ := hr
  have HBS := Lib.hid hB
  have HUI := Lib.hid (show uinit (⟨bus, mn, l, up, dn, start, idle, spin, on⟩ : Un) = max (min on up) (-dn) from rfl)
  have HUP := Lib.hid (show ((⟨bus, mn, l, up, dn, start, idle, spin, on⟩ : Un)).up = up from rfl)
  have HDN := Lib.hid (show ((⟨bus, mn, l, up, dn, start, idle, spin, on⟩ : Un)).dn = dn from rfl)
  generalize hU : (⟨bus, mn, l, up, dn, start, idle, spin, on⟩ : Un) = u at *
  have HU1 := Lib.hid (show 1 ≤ u.up by rw [HUP.out]; exact r1)
  have HU2 := Lib.hid (show 1 ≤ u.dn by rw [HDN.out]; exact r3)
  clear h hv hB hU
  go_enter Tryz.func53, Tryz.ntmps53
  go_wp2_with fail
  have hBX := Blk.new w 39 #[.int .i64 bus, .int .i64 mn, .slice A n c, .int .i64 up, .int .i64 dn, .int .i64 start, .int .i64 idle, .int .i64 spin, .int .i64 on]
  obtain ⟨u0, u1, u2, u3, u4, u5, u6, u7, u8⟩ := hBX.nine
  have hb0 : Below w.heap.size w (w.alloc (.cells #[.int .i64 bus, .int .i64 mn, .slice A n c, .int .i64 up, .int .i64 dn, .int .i64 start, .int .i64 idle, .int .i64 spin, .int .i64 on] 39)) := (Below.refl _ _).alloc (Nat.le_refl _) _
  generalize w.alloc (.cells #[.int .i64 bus, .int .i64 mn, .slice A n c, .int .i64 up, .int .i64 dn, .int .i64 start, .int .i64 idle, .int .i64 spin, .int .i64 on] 39) = W at *
  refine (T.out W hb0).mono ?_
  rintro e w1 ⟨rfl, hb1⟩
  have HBX := Lib.hid (hBX.below hb1 hBX.lt)
  obtain ⟨v0, v1, v2, v3, v4, v5, v6, v7, v8⟩ := HBX.out.nine
  have HB := Lib.hid (hb0.trans (hb1.mono hb0.size))
  clear hb1 hb0 hBX u0 u1 u2 u3 u4 u5 u6 u7 u8 T
  go_wp2_with fail
  have hS : ∀ w', Kp w1 w' → (w'.cell? ⟨w.heap.size, 0, none⟩ = some (.int .i64 bus) ∧ w'.cell? ⟨w.heap.size, 1, none⟩ = some (.int .i64 mn) ∧ w'.cell? ⟨w.heap.size, 2, none⟩ = some (.slice A n c) ∧ w'.cell? ⟨w.heap.size, 3, none⟩ = some (.int .i64 up) ∧ w'.cell? ⟨w.heap.size, 4, none⟩ = some (.int .i64 dn) ∧ w'.cell? ⟨w.heap.size, 5, none⟩ = some (.int .i64 start) ∧ w'.cell? ⟨w.heap.size, 6, none⟩ = some (.int .i64 idle) ∧ w'.cell? ⟨w.heap.size, 7, none⟩ = some (.int .i64 spin) ∧ w'.cell? ⟨w.heap.size, 8, none⟩ = some (.int .i64 on)) ∧ Kp w1 w' := fun w' hk => ⟨(hk.blk HBX.out).nine, hk⟩
  have HS := Lib.hid hS
  have hk0 := Kp.refl w1
  clear hS v0 v1 v2 v3 v4 v5 v6 v7 v8
  go_region_held3 (fun w' => (w'.cell? ⟨w.heap.size, 0, none⟩ = some (.int .i64 bus) ∧ w'.cell? ⟨w.heap.size, 1, none⟩ = some (.int .i64 mn) ∧ w'.cell? ⟨w.heap.size, 2, none⟩ = some (.slice A n c) ∧ w'.cell? ⟨w.heap.size, 3, none⟩ = some (.int .i64 up) ∧ w'.cell? ⟨w.heap.size, 4, none⟩ = some (.int .i64 dn) ∧ w'.cell? ⟨w.heap.size, 5, none⟩ = some (.int .i64 start) ∧ w'.cell? ⟨w.heap.size, 6, none⟩ = some (.int .i64 idle) ∧ w'.cell? ⟨w.heap.size, 7, none⟩ = some (.int .i64 spin) ∧ w'.cell? ⟨w.heap.size, 8, none⟩ = some (.int .i64 on)) ∧ Kp w1 w')
    (first | (with_reducible refine HS.out _ ?_; with_reducible assumption) | (with_reducible refine HS.out _ (Kp.drew ?_); with_reducible assumption) | (with_reducible refine' HS.out _ (Kp.drew (And.right ?_)); rotate_left; with_reducible assumption))
    (first | fail)
  have hk2 := And.right ‹_ ∧ Kp w1 _›
  have HB2 := Lib.hid (HB.out.trans (Below.mono hk2 HB.out.size))
  have HBX2 := Lib.hid (Kp.blk hk2 HBX.out)
  clear HB HBX HS hk0 hk2
  by_cases g0 : 0 < on
  · rw [decide_eq_true g0]
    have hnt0 : (!true) = false := rfl
    have HS0 := Lib.hid (show FsR u true on (uinit u) by refine ⟨by omega, ?_⟩; rw [HUI.out, HUP.out]; simp; omega)
    go_wp2_with fail
    go_loopw [5, 6, 7] (fun tq tl t wr => ∃ (k : Nat) (q : Bool) (y : Int), k ≤ m ∧ t = .int .i64 k ∧ tq = .bool q ∧ tl = .int .i64 y ∧ Hid (Below w.heap.size w wr ∧ Blk wr w.heap.size 39 #[.int .i64 bus, .int .i64 mn, .slice A n c, .int .i64 up, .int .i64 dn, .int .i64 start, .int .i64 idle, .int .i64 spin, .int .i64 on] ∧ y ≤ 6 + k ∧ ∃ s, FsR u q y s ∧ ufeas u (uinit u) bs = ufeas u s (bs.drop k))) (fun _ _ t _ => m - (intOf t).toNat)
    case atStart => exact ⟨0, true, on, Nat.zero_le _, rfl, rfl, rfl, HB2.out, HBX2.out, by omega, uinit u, HS0.out, by simp⟩
    case round =>
      clear HB2 HBX2
      obtain ⟨k, q, y, hk, rfl, rfl, rfl, hR⟩ := hrel
      obtain ⟨v0, v1, v2, v3, v4, v5, v6, v7, v8⟩ := hR.out.2.1.nine
      by_cases hlt : k < m
      · obtain ⟨b', o', rfl, hb', hc⟩ := HBS.out.2 (by omega)
        have hcl := (hR.out.1.cell (p := ⟨b', o' + k, none⟩) hb').trans (hc k hlt)
        have hd := dropB (bs := bs) (k := k) (by rw [HBS.out.1]; exact hlt)
        obtain ⟨-, -, y2, s, y3, hrel⟩ := hR.out
        have y1 := y3.1
        rw [hd] at hrel
        generalize bs[k]?.getD false = b at *
        have HBW := Lib.hid (And.intro hR.out.1 hR.out.2.1)
        have HRL := Lib.hid hrel
        have HY := Lib.hid y3
        have k1 : (0 : Int) ≤ (k : Int) := by omega
        have k2 : (k : Int) < (m : Int) := by omega
        have wl2 : IntKind.i64.wrap (y + 1) = y + 1 := IntWalk.i64_in _ (by omega)
        have et : (true == true) = true := rfl
        have ef : (false == false) = true := rfl
        have etf : (true == false) = false := rfl
        have eft : (false == true) = false := rfl
        have hnf : (!false) = true := rfl
        have hnt : (!true) = false := rfl
        clear hc hd hrel hR y3
        cases b <;> cases q
        · obtain ⟨t, ht, hn⟩ := fs_same HU1.out HU2.out HY.out (bs := bs.drop (k + 1))
          have HT := Lib.hid (And.intro ht (HRL.out.trans hn))
          clear ht hn
          go_wp2
          go_roundw
          case rel => exact ⟨k + 1, false, y + 1, by omega, by go_num, rfl, rfl, HBW.out.1, HBW.out.2, by omega, t, HT.out.1, HT.out.2⟩
          case measure => simp [intOf]; omega
        · by_cases g : y < up
          · have HF := Lib.hid (HRL.out.trans (fs_upno HU1.out HU2.out HY.out (by rw [HUP.out]; exact g)))
            go_wp2
            go_ret
            exact ⟨by rw [HF.out]; rfl, HBW.out.1⟩
          · obtain ⟨t, ht, hn⟩ := fs_up HU1.out HU2.out HY.out (by rw [HUP.out]; omega) (bs := bs.drop (k + 1))
            have HT := Lib.hid (And.intro ht (HRL.out.trans hn))
            clear ht hn
            go_wp2
            go_roundw
            case rel => exact ⟨k + 1, false, 1, by omega, by go_num, rfl, rfl, HBW.out.1, HBW.out.2, by omega, t, HT.out.1, HT.out.2⟩
            case measure => simp [intOf]; omega
        · by_cases g : y < dn
          · have HF := Lib.hid (HRL.out.trans (fs_dnno HU1.out HU2.out HY.out (by rw [HDN.out]; exact g)))
            go_wp2
            go_ret
            exact ⟨by rw [HF.out]; rfl, HBW.out.1⟩
          · obtain ⟨t, ht, hn⟩ := fs_dn HU1.out HU2.out HY.out (by rw [HDN.out]; omega) (bs := bs.drop (k + 1))
            have HT := Lib.hid (And.intro ht (HRL.out.trans hn))
            clear ht hn
            go_wp2
            go_roundw
            case rel => exact ⟨k + 1, true, 1, by omega, by go_num, rfl, rfl, HBW.out.1, HBW.out.2, by omega, t, HT.out.1, HT.out.2⟩
            case measure => simp [intOf]; omega
        · obtain ⟨t, ht, hn⟩ := fs_same HU1.out HU2.out HY.out (bs := bs.drop (k + 1))
          have HT := Lib.hid (And.intro ht (HRL.out.trans hn))
          clear ht hn
          go_wp2
          go_roundw
          case rel => exact ⟨k + 1, true, y + 1, by omega, by go_num, rfl, rfl, HBW.out.1, HBW.out.2, by omega, t, HT.out.1, HT.out.2⟩
          case measure => simp [intOf]; omega
      · obtain rfl : m = k := by omega
        obtain ⟨-, -, -, s, -, hrel⟩ := hR.out
        rw [List.drop_eq_nil_of_le (by rw [HBS.out.1]; exact Nat.le_refl _)] at hrel
        have HF := Lib.hid (hrel.trans (show ufeas u s [] = true from rfl))
        have HBW := Lib.hid hR.out.1
        clear hrel hR
        go_wp2
        go_ret
        exact ⟨by rw [HF.out]; rfl, HBW.out⟩
  · rw [decide_eq_false g0]
    have hnf0 : (!false) = true := rfl
    have wl : IntKind.i64.wrap (-on) = -on := IntWalk.i64_in _ (by omega)
    have HS0 := Lib.hid (show FsR u false (-on) (uinit u) by refine ⟨by omega, ?_⟩; rw [HUI.out, HDN.out]; simp; omega)
    obtain ⟨v0, v1, v2, v3, v4, v5, v6, v7, v8⟩ := HBX2.out.nine
    go_wp2_with fail
    clear v0 v1 v2 v3 v4 v5 v6 v7 v8
    go_loopw [5, 6, 7] (fun tq tl t wr => ∃ (k : Nat) (q : Bool) (y : Int), k ≤ m ∧ t = .int .i64 k ∧ tq = .bool q ∧ tl = .int .i64 y ∧ Hid (Below w.heap.size w wr ∧ Blk wr w.heap.size 39 #[.int .i64 bus, .int .i64 mn, .slice A n c, .int .i64 up, .int .i64 dn, .int .i64 start, .int .i64 idle, .int .i64 spin, .int .i64 on] ∧ y ≤ 6 + k ∧ ∃ s, FsR u q y s ∧ ufeas u (uinit u) bs = ufeas u s (bs.drop k))) (fun _ _ t _ => m - (intOf t).toNat)
    case atStart => exact ⟨0, false, -on, Nat.zero_le _, rfl, rfl, rfl, HB2.out, HBX2.out, by omega, uinit u, HS0.out, by simp⟩
    case round =>
      clear HB2 HBX2
      obtain ⟨k, q, y, hk, rfl, rfl, rfl, hR⟩ := hrel
      obtain ⟨v0, v1, v2, v3, v4, v5, v6, v7, v8⟩ := hR.out.2.1.nine
      by_cases hlt : k < m
      · obtain ⟨b', o', rfl, hb', hc⟩ := HBS.out.2 (by omega)
        have hcl := (hR.out.1.cell (p := ⟨b', o' + k, none⟩) hb').trans (hc k hlt)
        have hd := dropB (bs := bs) (k := k) (by rw [HBS.out.1]; exact hlt)
        obtain ⟨-, -, y2, s, y3, hrel⟩ := hR.out
        have y1 := y3.1
        rw [hd] at hrel
        generalize bs[k]?.getD false = b at *
        have HBW := Lib.hid (And.intro hR.out.1 hR.out.2.1)
        have HRL := Lib.hid hrel
        have HY := Lib.hid y3
        have k1 : (0 : Int) ≤ (k : Int) := by omega
        have k2 : (k : Int) < (m : Int) := by omega
        have wl2 : IntKind.i64.wrap (y + 1) = y + 1 := IntWalk.i64_in _ (by omega)
        have et : (true == true) = true := rfl
        have ef : (false == false) = true := rfl
        have etf : (true == false) = false := rfl
        have eft : (false == true) = false := rfl
        have hnf : (!false) = true := rfl
        have hnt : (!true) = false := rfl
        clear hc hd hrel hR y3
        cases b <;> cases q
        · obtain ⟨t, ht, hn⟩ := fs_same HU1.out HU2.out HY.out (bs := bs.drop (k + 1))
          have HT := Lib.hid (And.intro ht (HRL.out.trans hn))
          clear ht hn
          go_wp2
          go_roundw
          case rel => exact ⟨k + 1, false, y + 1, by omega, by go_num, rfl, rfl, HBW.out.1, HBW.out.2, by omega, t, HT.out.1, HT.out.2⟩
          case measure => simp [intOf]; omega
        · by_cases g : y < up
          · have HF := Lib.hid (HRL.out.trans (fs_upno HU1.out HU2.out HY.out (by rw [HUP.out]; exact g)))
            go_wp2
            go_ret
            exact ⟨by rw [HF.out]; rfl, HBW.out.1⟩
          · obtain ⟨t, ht, hn⟩ := fs_up HU1.out HU2.out HY.out (by rw [HUP.out]; omega) (bs := bs.drop (k + 1))
            have HT := Lib.hid (And.intro ht (HRL.out.trans hn))
            clear ht hn
            go_wp2
            go_roundw
            case rel => exact ⟨k + 1, false, 1, by omega, by go_num, rfl, rfl, HBW.out.1, HBW.out.2, by omega, t, HT.out.1, HT.out.2⟩
            case measure => simp [intOf]; omega
        · by_cases g : y < dn
          · have HF := Lib.hid (HRL.out.trans (fs_dnno HU1.out HU2.out HY.out (by rw [HDN.out]; exact g)))
            go_wp2
            go_ret
            exact ⟨by rw [HF.out]; rfl, HBW.out.1⟩
          · obtain ⟨t, ht, hn⟩ := fs_dn HU1.out HU2.out HY.out (by rw [HDN.out]; omega) (bs := bs.drop (k + 1))
            have HT := Lib.hid (And.intro ht (HRL.out.trans hn))
            clear ht hn
            go_wp2
            go_roundw
            case rel => exact ⟨k + 1, true, 1, by omega, by go_num, rfl, rfl, HBW.out.1, HBW.out.2, by omega, t, HT.out.1, HT.out.2⟩
            case measure => simp [intOf]; omega
        · obtain ⟨t, ht, hn⟩ := fs_same HU1.out HU2.out HY.out (bs := bs.drop (k + 1))
          have HT := Lib.hid (And.intro ht (HRL.out.trans hn))
          clear ht hn
          go_wp2
          go_roundw
          case rel => exact ⟨k + 1, true, y + 1, by omega, by go_num, rfl, rfl, HBW.out.1, HBW.out.2, by omega, t, HT.out.1, HT.out.2⟩
          case measure => simp [intOf]; omega
      · obtain rfl : m = k := by omega
        obtain ⟨-, -, -, s, -, hrel⟩ := hR.out
        rw [List.drop_eq_nil_of_le (by rw [HBS.out.1]; exact Nat.le_refl _)] at hrel
        have HF := Lib.hid (hrel.trans (show ufeas u s [] = true from rfl))
        have HBW := Lib.hid hR.out.1
        clear hrel hR
        go_wp2
        go_ret
        exact ⟨by rw [HF.out]; rfl, HBW.out⟩

end Go.Proofs.YtdoeejcmaeefcaaGreat
