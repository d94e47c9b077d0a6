/-
Package commit: hours in memory, checkHour, FirmDemand, hourCost. Package commit: FirmDemand, hourCost. No statement of the seat is proved here; no conditions beyond those of each theorem.
-/
import Derived.Test.YtdoeejcmaeefcaaGreatHR
namespace Go.Proofs.YtdoeejcmaeefcaaGreat
set_option linter.unusedVariables false
set_option linter.unusedSimpArgs false
open Go.RowKit
open Wd
open Cm

abbrev Bd := Int × List (Int × Int)
def Bd0 : Bd := (0, [])
/-- Bids in a slice. -/
def BdAt (w : World) (A : Option Addr) (n : Nat) (bs : List Bd) : Prop :=
  bs.length = n ∧ (n ≠ 0 → ∃ b o, A = some ⟨b, o, none⟩ ∧ b < w.heap.size ∧ ∀ j, j < n → ∃ A' n' c', w.cell? ⟨b, o + j * 2, none⟩ = some (.int .i64 (bs[j]?.getD Bd0).1) ∧ w.cell? ⟨b, o + j * 2 + 1, none⟩ = some (.slice A' n' c') ∧ StAt w A' n' (bs[j]?.getD Bd0).2)
theorem BdAt.below {w w' : World} {A : Option Addr} {n : Nat} {bs : List Bd} (h : BdAt w A n bs) (hb : Below w.heap.size w w') : BdAt w' A n bs := by
  refine ⟨h.1, fun hn => ?_⟩
  obtain ⟨b, o, rfl, hlt, hc⟩ := h.2 hn
  refine ⟨b, o, rfl, Nat.lt_of_lt_of_le hlt hb.size, fun j hj => ?_⟩
  obtain ⟨A', n', c', h1, h2, h3⟩ := hc j hj
  exact ⟨A', n', c', (hb.cell (p := ⟨b, _, none⟩) hlt).trans h1, (hb.cell (p := ⟨b, _, none⟩) hlt).trans h2, h3.below hb⟩
/-- Hours in a slice. -/
def HsAt (w : World) (A : Option Addr) (n : Nat) (hs : List Hr) : Prop :=
  hs.length = n ∧ (n ≠ 0 → ∃ b o, A = some ⟨b, o, none⟩ ∧ b < w.heap.size ∧ ∀ j, j < n → ∃ Ab nb cb Ar nr cr, w.cell? ⟨b, o + j * 3, none⟩ = some (.slice Ab nb cb) ∧ w.cell? ⟨b, o + j * 3 + 1, none⟩ = some (.slice Ar nr cr) ∧ w.cell? ⟨b, o + j * 3 + 2, none⟩ = some (.int .i64 (hs[j]?.getD Hr0).need) ∧ BdAt w Ab nb (hs[j]?.getD Hr0).bids)
theorem HsAt.below {w w' : World} {A : Option Addr} {n : Nat} {hs : List Hr} (h : HsAt w A n hs) (hb : Below w.heap.size w w') : HsAt w' A n hs := by
  refine ⟨h.1, fun hn => ?_⟩
  obtain ⟨b, o, rfl, hlt, hc⟩ := h.2 hn
  refine ⟨b, o, rfl, Nat.lt_of_lt_of_le hlt hb.size, fun j hj => ?_⟩
  obtain ⟨Ab, nb, cb, Ar, nr, cr, h1, h2, h3, h4⟩ := hc j hj
  exact ⟨Ab, nb, cb, Ar, nr, cr, (hb.cell (p := ⟨b, _, none⟩) hlt).trans h1, (hb.cell (p := ⟨b, _, none⟩) hlt).trans h2, (hb.cell (p := ⟨b, _, none⟩) hlt).trans h3, h4.below hb⟩
theorem dropD {α : Type} {l : List α} {k : Nat} {d : α} (hk : k < l.length) : l.drop k = (l[k]?.getD d) :: l.drop (k + 1) := by
  rw [List.drop_eq_getElem_cons hk, List.getElem?_eq_getElem hk]
  rfl
theorem bchk_bus {b : Bd} {r : List Bd} (h : b.1 < 0 ∨ 6 ≤ b.1) : bchk (b :: r) = 1 := by rw [bchk, if_pos h]
theorem bchk_bad {b : Bd} {r : List Bd} (h : ¬ (b.1 < 0 ∨ 6 ≤ b.1)) (h2 : chk false b.2 ≠ 0) : bchk (b :: r) = chk false b.2 := by rw [bchk, if_neg h, if_pos h2]
theorem bchk_ok {b : Bd} {r : List Bd} (h : ¬ (b.1 < 0 ∨ 6 ≤ b.1)) (h2 : chk false b.2 = 0) : bchk (b :: r) = bchk r := by rw [bchk, if_neg h, if_neg (by simp [h2])]

set_option maxRecDepth 100000 in
set_option maxHeartbeats 4000000 in
theorem checkHour_raw (Ab Ar : Option Addr) (nb cb nr cr : Nat) (need : Int) (bids : List Bd) (w : World) (h : BdAt w Ab nb bids) (hs : ∀ b ∈ bids, b.2.length ≤ 1000000000000) (hn : nb ≤ 1000000000000) :
    Calls Tryz.prog 46 #[.agg #[.slice Ab nb cb, .slice Ar nr cr, .int .i64 need]] w fun e w' => e = .returned (.int .i64 (hchk ⟨bids, need⟩)) ∧ Below w.heap.size w w' := by
  have HX := Lib.hid h
  have HL := Lib.hid hs
  have hlen := h.1
  by_cases h6 : 6 < nb
  · have HE := Lib.hid (show hchk ⟨bids, need⟩ = 5 by unfold hchk; rw [if_pos (by simp only; omega)])
    have h6i : (6 : Int) < (nb : Int) := by omega
    clear h hs hlen
    go_enter Tryz.func46, Tryz.ntmps46
    go_wp2_with fail
    have hBX := Blk.new w 46 #[.slice Ab nb cb, .slice Ar nr cr, .int .i64 need]
    have hb0 : Below w.heap.size w (w.alloc (.cells #[.slice Ab nb cb, .slice Ar nr cr, .int .i64 need] 46)) := (Below.refl _ _).alloc (Nat.le_refl _) _
    generalize w.alloc (.cells #[.slice Ab nb cb, .slice Ar nr cr, .int .i64 need] 46) = W at *
    obtain ⟨u0, u1, u2⟩ := (show W.cell? ⟨w.heap.size, 0, none⟩ = some _ ∧ W.cell? ⟨w.heap.size, 1, none⟩ = some _ ∧ W.cell? ⟨w.heap.size, 2, none⟩ = some _ from ⟨hBX.cell 0, hBX.cell 1, hBX.cell 2⟩)
    go_wp2
    go_ret
    exact ⟨by rw [HE.out]; rfl, hb0⟩
  · have HE0 := Lib.hid (show hchk ⟨bids, need⟩ = if bchk bids ≠ 0 then bchk bids else if need < 0 ∨ 1000000 < need then 1 else 0 by unfold hchk; rw [if_neg (by simp only; omega)])
    have h6i : ¬ (6 : Int) < (nb : Int) := by omega
    generalize hchk ⟨bids, need⟩ = res at *
    clear h hs hlen
    go_enter Tryz.func46, Tryz.ntmps46
    go_wp2_with fail
    have hBX := Blk.new w 46 #[.slice Ab nb cb, .slice Ar nr cr, .int .i64 need]
    have hb0 : Below w.heap.size w (w.alloc (.cells #[.slice Ab nb cb, .slice Ar nr cr, .int .i64 need] 46)) := (Below.refl _ _).alloc (Nat.le_refl _) _
    generalize w.alloc (.cells #[.slice Ab nb cb, .slice Ar nr cr, .int .i64 need] 46) = W at *
    have HST := Lib.hid (And.intro hb0 hBX)
    clear hb0 hBX
    go_loopw [13] (fun t wr => ∃ (k : Nat), k ≤ nb ∧ t = .int .i64 k ∧ Hid (Below w.heap.size w wr ∧ Blk wr w.heap.size 46 #[.slice Ab nb cb, .slice Ar nr cr, .int .i64 need] ∧ bchk bids = bchk (bids.drop k))) (fun t _ => nb - (intOf t).toNat)
    case atStart => exact ⟨0, Nat.zero_le _, rfl, HST.out.1, HST.out.2, by simp⟩
    case round =>
      clear HST
      obtain ⟨k, hk, rfl, hR⟩ := hrel
      by_cases hlt : k < nb
      · obtain ⟨b', o', rfl, hb', hc⟩ := HX.out.2 (by omega)
        obtain ⟨A', n', c', e0, e1, hst⟩ := hc k hlt
        have c0 := (hR.out.1.cell (p := ⟨b', o' + k * 2, none⟩) hb').trans e0
        have c1 := (hR.out.1.cell (p := ⟨b', o' + k * 2 + 1, none⟩) hb').trans e1
        have hkl : k < bids.length := by rw [HX.out.1]; exact hlt
        have hd := dropD (d := Bd0) hkl
        have hrel := hR.out.2.2
        rw [hd] at hrel
        have hls := HL.out _ (gmem (d := Bd0) hkl)
        have hn' : n' ≤ 1000000000000 := by have := hst.1; omega
        have T := Lib.hid (fun W (hW : Below wr.heap.size wr W) => checkBid_any A' n' c' (bids[k]?.getD Bd0).2 W ((hst.below hR.out.1).below hW) hn')
        have h1 := fun hh => hrel.trans (bchk_bus (b := bids[k]?.getD Bd0) (r := bids.drop (k + 1)) hh)
        have h2 := fun hh hh2 => hrel.trans (bchk_bad (b := bids[k]?.getD Bd0) (r := bids.drop (k + 1)) hh hh2)
        have h3 := fun hh hh2 => hrel.trans (bchk_ok (b := bids[k]?.getD Bd0) (r := bids.drop (k + 1)) hh hh2)
        generalize (bids[k]?.getD Bd0).1 = bus at *
        generalize chk false (bids[k]?.getD Bd0).2 = ce at *
        have k1 : (0 : Int) ≤ (k : Int) := by omega
        have k2 : (k : Int) < (nb : Int) := by omega
        have HBW := Lib.hid (And.intro hR.out.1 hR.out.2.1)
        clear hc e0 e1 hst hd hrel hls hR hkl
        have kb := (Kp.refl wr).alloc (.cells #[.int .i64 bus, .slice A' n' c'] 54)
        have HBW2 := Lib.hid (And.intro (HBW.out.1.trans (Below.mono kb HBW.out.1.size)) (Kp.blk kb HBW.out.2))
        have HKB := Lib.hid kb
        clear kb
        by_cases g1 : bus < 0
        · have HE := Lib.hid (h1 (Or.inl g1))
          clear h1 h2 h3 T
          go_wp2
          go_ret
          exact ⟨by rw [HE0.out, if_pos (by rw [HE.out]; decide), HE.out]; rfl, HBW2.out.1⟩
        · by_cases g2 : 6 ≤ bus
          · have HE := Lib.hid (h1 (Or.inr g2))
            clear h1 h2 h3 T
            go_wp2
            go_ret
            exact ⟨by rw [HE0.out, if_pos (by rw [HE.out]; decide), HE.out]; rfl, HBW2.out.1⟩
          · have hg : ¬ (bus < 0 ∨ 6 ≤ bus) := by omega
            have H2 := Lib.hid (h2 hg)
            have H3 := Lib.hid (h3 hg)
            clear h1 h2 h3 hg
            go_wp2_with fail
            refine (T.out _ HKB.out).mono ?_
            rintro e w2 ⟨rfl, hb2⟩
            have HB3 := Lib.hid (And.intro (HBW2.out.1.trans (hb2.mono HBW2.out.1.size)) (HBW2.out.2.below hb2 HBW2.out.2.lt))
            clear hb2 T HKB
            by_cases g3 : ce = 0
            · have he : (ce != 0) = false := by simp [g3]
              have HE := Lib.hid (H3.out g3)
              clear H2 H3 g3
              go_wp2
              go_roundw
              case rel => exact ⟨k + 1, by omega, by go_num, HB3.out.1, HB3.out.2, HE.out⟩
              case measure => simp [intOf]; omega
            · have he : (ce != 0) = true := by simp [g3]
              have HE := Lib.hid (H2.out g3)
              have HN := Lib.hid g3
              clear H2 H3 g3
              go_wp2
              go_ret
              exact ⟨by rw [HE0.out, if_pos (by rw [HE.out]; exact HN.out), HE.out]; rfl, HB3.out.1⟩
      · obtain rfl : nb = k := by omega
        have hrel := hR.out.2.2
        rw [List.drop_eq_nil_of_le (by rw [HX.out.1]; exact Nat.le_refl _)] at hrel
        have HE := Lib.hid (hrel.trans (show bchk [] = 0 from rfl))
        have hB := hR.out.1
        obtain ⟨u0, u1, u2⟩ := (show wr.cell? ⟨w.heap.size, 0, none⟩ = some _ ∧ wr.cell? ⟨w.heap.size, 1, none⟩ = some _ ∧ wr.cell? ⟨w.heap.size, 2, none⟩ = some _ from ⟨hR.out.2.1.cell 0, hR.out.2.1.cell 1, hR.out.2.1.cell 2⟩)
        have HBW := Lib.hid hB
        have HE1 := Lib.hid (HE0.out.trans (if_neg (by rw [HE.out]; simp)))
        clear hrel hR hB HE HE0
        by_cases g1 : need < 0
        · have HE2 := Lib.hid (HE1.out.trans (if_pos (Or.inl g1)))
          clear HE1
          go_wp2
          go_ret
          exact ⟨by rw [HE2.out]; rfl, HBW.out⟩
        · by_cases g2 : 1000000 < need
          · have HE2 := Lib.hid (HE1.out.trans (if_pos (Or.inr g2)))
            clear HE1
            go_wp2
            go_ret
            exact ⟨by rw [HE2.out]; rfl, HBW.out⟩
          · have HE2 := Lib.hid (HE1.out.trans (if_neg (by omega)))
            clear HE1
            go_wp2
            go_ret
            exact ⟨by rw [HE2.out]; rfl, HBW.out⟩

end Go.Proofs.YtdoeejcmaeefcaaGreat

namespace Go.Proofs.YtdoeejcmaeefcaaGreat
set_option linter.unusedVariables false
set_option linter.unusedSimpArgs false
open Go.RowKit
open Wd
open Cm

theorem sumL_app : ∀ (xs ys : List Int), sumL (xs ++ ys) = sumL xs + sumL ys
  | [], ys => by simp [sumL]
  | x :: xs, ys => by rw [List.cons_append, sumL, sumL, sumL_app xs ys]; omega
theorem hchk_ok {h : Hr} (hk : hchk h = 0) : h.bids.length ≤ 6 ∧ (∀ b ∈ h.bids, chk false b.2 = 0) ∧ 0 ≤ h.need ∧ h.need ≤ 1000000 := by
  have hb : ∀ bs : List Bd, bchk bs = 0 → ∀ b ∈ bs, chk false b.2 = 0 := by
    intro bs
    induction bs with
    | nil => intro _ b hb; simp at hb
    | cons b r ih =>
      intro hc
      rw [bchk] at hc
      split at hc
      · simp at hc
      · split at hc
        · rename_i h1 h2; exact absurd hc h2
        · rename_i h1 h2
          intro x hx
          rcases List.mem_cons.1 hx with rfl | hx
          · exact Classical.not_not.1 h2
          · exact ih hc x hx
  unfold hchk at hk
  split at hk
  · simp at hk
  · split at hk
    · rename_i h1 h2; exact absurd hk h2
    · rename_i h1 h2
      split at hk
      · simp at hk
      · exact ⟨by omega, hb _ (Classical.not_not.1 h2), by omega, by omega⟩

theorem firmS_bd : ∀ {l : List (Int × Int)}, (∀ s ∈ l, ¬ Bad s.1 s.2) → firmS l ≤ 1000000 * (l.length : Int)
  | [], _ => by simp [firmS, sumL]
  | s :: l, h => by
    have i1 := firmS_bd fun t ht => h t (List.mem_cons_of_mem _ ht)
    have i2 := h s (List.mem_cons_self ..)
    unfold Bad at i2
    unfold firmS at i1 ⊢
    rw [List.map_cons, sumL, List.length_cons]
    split <;> omega
theorem firm_bd {h : Hr} (hk : hchk h = 0) : firm h ≤ 18000000 := by
  obtain ⟨h1, h2, _, _⟩ := hchk_ok hk
  have key : ∀ bs : List Bd, (∀ b ∈ bs, chk false b.2 = 0) → sumL (bs.map fun b => firmS b.2) ≤ 3000000 * (bs.length : Int) := by
    intro bs
    induction bs with
    | nil => intro _; simp [sumL]
    | cons b r ih =>
      intro hb
      have i1 := ih fun x hx => hb x (List.mem_cons_of_mem _ hx)
      obtain ⟨_, i2, _, i3⟩ := chk_ok (hb b (List.mem_cons_self ..))
      have i4 := firmS_bd i3
      rw [List.map_cons, sumL, List.length_cons]
      omega
  have := key _ h2
  unfold firm
  rw [if_pos hk]
  exact Int.le_trans this (by omega)

set_option maxRecDepth 100000 in
set_option maxHeartbeats 4000000 in
theorem firm_raw (Ab Ar : Option Addr) (nb cb nr cr : Nat) (need : Int) (bids : List Bd) (w : World) (h : BdAt w Ab nb bids) (hs : ∀ b ∈ bids, b.2.length ≤ 1000000000000) (hn : nb ≤ 1000000000000) :
    Calls Tryz.prog 30 #[.agg #[.slice Ab nb cb, .slice Ar nr cr, .int .i64 need]] w fun e w' => e = .returned (.int .i64 (firm ⟨bids, need⟩)) ∧ Below w.heap.size w w' := by
  have HX := Lib.hid h
  have T := Lib.hid (fun W (hW : Below w.heap.size w W) => checkHour_raw Ab Ar nb cb nr cr need bids W (h.below hW) hs hn)
  clear h hs
  by_cases hk : hchk ⟨bids, need⟩ = 0
  · obtain ⟨b6, hg, -, -⟩ := hchk_ok hk
    simp only at b6 hg
    have HE0 := Lib.hid (show firm ⟨bids, need⟩ = sumL (bids.map fun b => firmS b.2) by unfold firm; rw [if_pos hk])
    rw [hk] at T
    have HG := Lib.hid hg
    generalize firm ⟨bids, need⟩ = res at *
    have hnb6 : nb ≤ 6 := by have := HX.out.1; omega
    clear hk hg b6
    go_enter Tryz.func30, Tryz.ntmps30
    go_wp2_with fail
    have hBX := Blk.new w 46 #[.slice Ab nb cb, .slice Ar nr cr, .int .i64 need]
    have hb0 : Below w.heap.size w (w.alloc (.cells #[.slice Ab nb cb, .slice Ar nr cr, .int .i64 need] 46)) := (Below.refl _ _).alloc (Nat.le_refl _) _
    generalize w.alloc (.cells #[.slice Ab nb cb, .slice Ar nr cr, .int .i64 need] 46) = W at *
    refine (T.out W hb0).mono ?_
    rintro e w1 ⟨rfl, hb1⟩
    have HST := Lib.hid (hb0.trans (hb1.mono hb0.size))
    obtain ⟨u0, u1, u2⟩ := (show w1.cell? ⟨w.heap.size, 0, none⟩ = some _ ∧ w1.cell? ⟨w.heap.size, 1, none⟩ = some _ ∧ w1.cell? ⟨w.heap.size, 2, none⟩ = some _ from ⟨(hBX.below hb1 hBX.lt).cell 0, (hBX.below hb1 hBX.lt).cell 1, (hBX.below hb1 hBX.lt).cell 2⟩)
    clear hb0 hBX hb1 T
    go_wp2_with fail
    clear u0 u1 u2
    go_loopw [3, 14] (fun tz t wr => ∃ (k : Nat) (z : Int), k ≤ nb ∧ t = .int .i64 k ∧ tz = .int .i64 z ∧ Hid (Below w.heap.size w wr ∧ res = z + sumL ((bids.drop k).map fun b => firmS b.2) ∧ 0 ≤ z ∧ z ≤ 3000000 * k)) (fun _ t _ => nb - (intOf t).toNat)
    case atStart => exact ⟨0, 0, Nat.zero_le _, rfl, rfl, HST.out, by rw [HE0.out]; simp, Int.le_refl _, Int.le_refl _⟩
    case round =>
      clear HST
      obtain ⟨k, z, hk, rfl, rfl, hR⟩ := hrel
      obtain ⟨wv, rfl⟩ : ∃ v, v = wr := ⟨_, rfl⟩
      by_cases hlt : k < nb
      · obtain ⟨b', o', rfl, hb', hc⟩ := HX.out.2 (by omega)
        obtain ⟨A', n', c', e0, e1, hst⟩ := hc k hlt
        have c0 := (hR.out.1.cell (p := ⟨b', o' + k * 2, none⟩) hb').trans e0
        have c1 := (hR.out.1.cell (p := ⟨b', o' + k * 2 + 1, none⟩) hb').trans e1
        have hkl : k < bids.length := by rw [HX.out.1]; exact hlt
        have hd := dropD (d := Bd0) hkl
        have hrel := hR.out.2.1
        rw [hd, List.map_cons, sumL] at hrel
        obtain ⟨_, q1, _, q2⟩ := chk_ok (HG.out _ (gmem (d := Bd0) hkl))
        obtain ⟨z1, z2⟩ := hR.out.2.2
        have HQ2 := Lib.hid q2
        have HSL := Lib.hid (hst.below hR.out.1)
        have hn3 : n' ≤ 3 := by have := hst.1; omega
        generalize (bids[k]?.getD Bd0).1 = bus at *
        generalize (bids[k]?.getD Bd0).2 = l at *
        generalize hrest : sumL ((bids.drop (k + 1)).map fun b => firmS b.2) = rest at *
        have HREST := Lib.hid hrest
        clear hrest
        have k1 : (0 : Int) ≤ (k : Int) := by omega
        have k2 : (k : Int) < (nb : Int) := by omega
        have HRL := Lib.hid hrel
        have kb := (Kp.refl wv).alloc (.cells #[.int .i64 bus, .slice A' n' c'] 54)
        have HSK := Lib.hid (And.intro (hR.out.1.trans (Below.mono kb hR.out.1.size)) (HSL.out.below kb))
        clear hc e0 e1 hst hd hrel hkl q1 q2 kb hR
        go_wp2_with fail
        clear c0 c1
        go_loopw [3, 21] (fun tz t wr2 => ∃ (j : Nat) (y : Int), j ≤ n' ∧ t = .int .i64 j ∧ tz = .int .i64 y ∧ Hid (Below w.heap.size w wr2 ∧ StAt wr2 A' n' l ∧ res = y + (firmS (l.drop j) + rest) ∧ 0 ≤ y ∧ y ≤ 3000000 * k + 1000000 * j)) (fun _ t _ => n' - (intOf t).toNat)
        case atStart => exact ⟨0, z, Nat.zero_le _, rfl, rfl, HSK.out.1, HSK.out.2, by rw [HRL.out]; simp, z1, by omega⟩
        case round =>
          clear HSK HRL z1 z2
          obtain ⟨j, y, hj, rfl, rfl, hR2⟩ := hrel
          obtain ⟨wu, rfl⟩ : ∃ v, v = wr := ⟨_, rfl⟩
          by_cases hlj : j < n'
          · obtain ⟨bs', os', rfl, hbs', hcs⟩ := hR2.out.2.1.2.2 (by omega)
            obtain ⟨s0, s1⟩ := hcs j hlj
            have hjl : j < l.length := by rw [hR2.out.2.1.1]; exact hlj
            have hd := dropD (d := ((0, 0) : Int × Int)) hjl
            have hrel := hR2.out.2.2.1
            have hf : firmS (l.drop j) = (if (l[j]?.getD (0, 0)).2 = 1000000 then (l[j]?.getD (0, 0)).1 else 0) + firmS (l.drop (j + 1)) := by rw [hd]; rfl
            rw [hf] at hrel
            have hq := HQ2.out _ (gmem (d := ((0, 0) : Int × Int)) hjl)
            unfold Bad at hq
            obtain ⟨y1, y2⟩ := hR2.out.2.2.2
            have HSL2 := Lib.hid hR2.out.2.1
            generalize (l[j]?.getD (0, 0)).1 = sq at *
            generalize (l[j]?.getD (0, 0)).2 = sp at *
            generalize hrest2 : firmS (l.drop (j + 1)) = rest2 at *
            have HREST2 := Lib.hid hrest2
            clear hrest2
            have j1 : (0 : Int) ≤ (j : Int) := by omega
            have j2 : (j : Int) < (n' : Int) := by omega
            have wl : IntKind.i64.wrap (y + sq) = y + sq := IntWalk.i64_in _ (by omega)
            have kb := (Kp.refl wu).alloc (.cells #[.int .i64 sq, .int .i64 sp] 83)
            have HSK := Lib.hid (And.intro (hR2.out.1.trans (Below.mono kb hR2.out.1.size)) (HSL2.out.below kb))
            have HRL := Lib.hid hrel
            clear hcs hd hrel hf hjl kb hR2
            by_cases g : sp = 1000000
            · have hb : (sp == 1000000) = true := by simpa using g
              have HRL2 := Lib.hid (by have h9 := HRL.out; rw [if_pos g] at h9; exact h9)
              clear HRL g
              go_wp2
              go_roundw
              case rel => exact ⟨j + 1, y + sq, by omega, by go_num, rfl, HSK.out.1, HSK.out.2, by rw [HREST2.out, HRL2.out]; omega, by omega, by omega⟩
              case measure => simp [intOf]; omega
            · have hb : (sp == 1000000) = false := by simpa using g
              have HRL2 := Lib.hid (by have h9 := HRL.out; rw [if_neg g] at h9; exact h9)
              clear HRL g
              go_wp2
              go_roundw
              case rel => exact ⟨j + 1, y, by omega, by go_num, rfl, HSK.out.1, HSK.out.2, by rw [HREST2.out, HRL2.out]; omega, by omega, by omega⟩
              case measure => simp [intOf]; omega
          · obtain rfl : n' = j := by omega
            have hrel := hR2.out.2.2.1
            rw [List.drop_eq_nil_of_le (by rw [hR2.out.2.1.1]; exact Nat.le_refl _)] at hrel
            have HF := Lib.hid (show res = y + rest by rw [hrel]; show y + (0 + rest) = y + rest; omega)
            have HBW := Lib.hid hR2.out.1
            obtain ⟨y1, y2⟩ := hR2.out.2.2.2
            clear hrel hR2
            go_wp2
            go_roundw
            case rel => exact ⟨k + 1, y, by omega, by go_num, rfl, HBW.out, by rw [HREST.out]; exact HF.out, by omega, by omega⟩
            case measure => simp [intOf]; omega
      · obtain rfl : nb = k := by omega
        have hrel := hR.out.2.1
        rw [List.drop_eq_nil_of_le (by rw [HX.out.1]; exact Nat.le_refl _)] at hrel
        have HF := Lib.hid (show res = z by rw [hrel]; show z + 0 = z; omega)
        have HBW := Lib.hid hR.out.1
        clear hrel hR
        go_wp2
        go_ret
        exact ⟨by rw [HF.out]; rfl, HBW.out⟩
  · have HE0 := Lib.hid (show firm ⟨bids, need⟩ = 0 by unfold firm; rw [if_neg hk])
    have he : (hchk ⟨bids, need⟩ != 0) = true := by simp [hk]
    generalize firm ⟨bids, need⟩ = res at *
    generalize hchk ⟨bids, need⟩ = ce at *
    clear hk
    go_enter Tryz.func30, Tryz.ntmps30
    go_wp2_with fail
    have hBX := Blk.new w 46 #[.slice Ab nb cb, .slice Ar nr cr, .int .i64 need]
    have hb0 : Below w.heap.size w (w.alloc (.cells #[.slice Ab nb cb, .slice Ar nr cr, .int .i64 need] 46)) := (Below.refl _ _).alloc (Nat.le_refl _) _
    generalize w.alloc (.cells #[.slice Ab nb cb, .slice Ar nr cr, .int .i64 need] 46) = W at *
    refine (T.out W hb0).mono ?_
    rintro e w1 ⟨rfl, hb1⟩
    have HST := Lib.hid (hb0.trans (hb1.mono hb0.size))
    clear hb0 hBX hb1 T
    go_wp2
    go_ret
    exact ⟨by rw [HE0.out]; rfl, HST.out⟩

/-- The result of hourCost as a value. -/
def optV (o : Option Int) : Value := .tuple #[.int .i64 (o.getD 0), .bool o.isSome]

set_option maxRecDepth 100000 in
set_option maxHeartbeats 4000000 in
theorem hourCost_raw (A B : Option Addr) (n c m d : Nat) (us : List Un) (bs : List Bool) (Ab Ar : Option Addr) (nb cb nr cr : Nat) (need : Int) (bids : List Bd) (w : World) (hu : UsAt w A n us) (hB : BsAt w B m bs) (he : echk us m = 0) (h : BdAt w Ab nb bids) (hk : hchk ⟨bids, need⟩ = 0) :
    Calls Tryz.prog 31 #[.slice A n c, .agg #[.slice Ab nb cb, .slice Ar nr cr, .int .i64 need], .slice B m d] w fun e w' => e = .returned (optV (supH us ⟨bids, need⟩ bs)) ∧ Below w.heap.size w w' := by
  obtain ⟨b6, hg, q1, q2⟩ := hchk_ok hk
  simp only at b6 hg q1 q2
  obtain ⟨u5, hmn, hok⟩ := echk_ok he
  have hnb6 : nb ≤ 6 := by have := h.1; omega
  have hn := hu.1
  have T1 := Lib.hid (fun W (hW : Below w.heap.size w W) => erange_ok A B n c m d us bs W (hu.below hW) (hB.below hW) (by omega) (by omega) he)
  have T2 := Lib.hid (fun W (hW : Below w.heap.size w W) => firm_raw Ab Ar nb cb nr cr need bids W (h.below hW) (fun b hb => by have := (chk_ok (hg b hb)).2.1; omega) (by omega))
  have T3 := Lib.hid (fun f W (hW : Below w.heap.size w W) => elc_any A B n c m d us bs f W (hu.below hW) (hB.below hW) (by omega) (by omega))
  have hf0 := (firm_pos hk).1
  have hrb := range_bd (us.zip bs) fun z hz => hok z.1 (List.of_mem_zip hz).1
  have hzl : (us.zip bs).length ≤ 5 := by rw [List.length_zip]; omega
  have HS := Lib.hid (show supH us ⟨bids, need⟩ bs = if rmin (us.zip bs) ≤ firm ⟨bids, need⟩ ∧ firm ⟨bids, need⟩ + need ≤ rmax (us.zip bs) then some (lcV us bs m (firm ⟨bids, need⟩)) else none by rw [hmn]; rfl)
  have HA := Lib.hid (fun (h1 : rmin (us.zip bs) ≤ firm ⟨bids, need⟩) (h2 : firm ⟨bids, need⟩ ≤ rmax (us.zip bs)) => show aerr us bs m (firm ⟨bids, need⟩) = 0 by unfold aerr; rw [if_neg (by simp [he]), if_neg (by omega), if_neg (by omega)])
  have hfb : firm ⟨bids, need⟩ ≤ 1000000000000 := by
    have := firm_bd hk
    omega
  generalize firm ⟨bids, need⟩ = f at *
  generalize rmin (us.zip bs) = lo at *
  generalize rmax (us.zip bs) = hi at *
  have wl : IntKind.i64.wrap (f + need) = f + need := IntWalk.i64_in _ (by omega)
  clear hu hB he h hk hg hok hmn hn hrb hzl
  have T3f := Lib.hid (T3.out f)
  clear T3
  go_enter Tryz.func31, Tryz.ntmps31
  go_wp2_with fail
  have hBX := Blk.new w 46 #[.slice Ab nb cb, .slice Ar nr cr, .int .i64 need]
  have hb0 : Below w.heap.size w (w.alloc (.cells #[.slice Ab nb cb, .slice Ar nr cr, .int .i64 need] 46)) := (Below.refl _ _).alloc (Nat.le_refl _) _
  generalize w.alloc (.cells #[.slice Ab nb cb, .slice Ar nr cr, .int .i64 need] 46) = W at *
  refine (T1.out W hb0).mono ?_
  rintro e w1 ⟨rfl, hb1⟩
  have HB1 := Lib.hid (hb0.trans (hb1.mono hb0.size))
  have hx1 := hBX.below hb1 hBX.lt
  obtain ⟨u0, u1, u2⟩ := (show w1.cell? ⟨w.heap.size, 0, none⟩ = some _ ∧ w1.cell? ⟨w.heap.size, 1, none⟩ = some _ ∧ w1.cell? ⟨w.heap.size, 2, none⟩ = some _ from ⟨hx1.cell 0, hx1.cell 1, hx1.cell 2⟩)
  have HX1 := Lib.hid hx1
  clear hb0 hBX hb1 T1 hx1
  go_wp2_with fail
  refine (T2.out w1 HB1.out).mono ?_
  rintro e w2 ⟨rfl, hb2⟩
  have HB2 := Lib.hid (HB1.out.trans (hb2.mono HB1.out.size))
  have v2 := (HX1.out.below hb2 HX1.out.lt).cell 2
  clear hb2 T2 HX1 HB1 u0 u1 u2
  simp at v2
  by_cases g1 : lo ≤ f
  · have n1 : ¬ f < lo := by omega
    by_cases g2 : f + need ≤ hi
    · have n2 : ¬ hi < f + need := by omega
      have ha := HA.out g1 (by omega)
      have HS2 := Lib.hid (HS.out.trans (if_pos ⟨g1, g2⟩))
      have T4 := Lib.hid (fun W (hW : Below w.heap.size w W) => (T3f.out W hW))
      rw [ha] at T4
      generalize lcV us bs m f = cv at *
      clear HS HA g1 g2 T3f ha
      go_wp2_with fail
      refine (T4.out w2 HB2.out).mono ?_
      rintro e w3 ⟨rfl, -, hb3⟩
      have HB3 := Lib.hid (HB2.out.trans (hb3.mono HB2.out.size))
      clear hb3 T4 v2
      go_wp2
      go_ret2
      exact ⟨by rw [HS2.out]; rfl, HB3.out⟩
    · have n2 : hi < f + need := by omega
      have HS2 := Lib.hid (HS.out.trans (if_neg (fun hh => g2 hh.2)))
      clear HS HA g1 g2 T3f
      go_wp2
      go_ret2
      exact ⟨by rw [HS2.out]; rfl, HB2.out⟩
  · have n1 : f < lo := by omega
    have HS2 := Lib.hid (HS.out.trans (if_neg (fun hh => g1 hh.1)))
    clear HS HA g1 T3f
    go_wp2
    go_ret2
    exact ⟨by rw [HS2.out]; rfl, HB2.out⟩

end Go.Proofs.YtdoeejcmaeefcaaGreat
