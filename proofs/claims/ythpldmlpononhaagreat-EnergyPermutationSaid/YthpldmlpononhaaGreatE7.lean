/-
Cost of package energy. No statement of the seat is proved here; no conditions beyond those of each theorem.
-/
import Derived.Test.YthpldmlpononhaaGreatE6
namespace Go.Proofs.YthpldmlpononhaaGreat
set_option linter.unusedVariables false
set_option linter.unusedSimpArgs false
open Go.RowKit
open Wd
open En (Pc PU)

/-- Whether the first k outputs fit. -/
def fitK (zs : List PU) (xs : List Int) (k : Nat) : Prop := ∀ i, i < k → (zs[i]?.getD PU0).dn ≤ xs[i]?.getD 0 ∧ xs[i]?.getD 0 ≤ (zs[i]?.getD PU0).up

set_option maxRecDepth 100000 in
set_option maxHeartbeats 8000000 in
theorem eCost_ok (A B C : Option Addr) (n c d e' : Nat) (us : List Un) (bs : List Bool) (xs : List Int) (w : World) (h : UsAt w A n us) (h' : BsAt w B n bs) (hx : IsAt w C n xs) (hm : n ≤ 1000000000000) (he : echk us n = 0) :
    Calls Tryz.prog 52 #[.slice A n c, .slice B n d, .slice C n e'] w fun e w' => ((En.FeasR (pus us bs) xs ∧ e = .returned (.tuple #[.int .i64 (En.costR (pus us bs) xs), .int .i64 0])) ∨ (¬ En.FeasR (pus us bs) xs ∧ e = .returned (.tuple #[.int .i64 0, .int .i64 3]))) ∧ Below w.heap.size w w' := by
  have T := echeck_any A B n c n d us bs w h h' hm hm
  rw [he] at T
  obtain ⟨hn5, hmn, hok⟩ := echk_ok he
  have HT := Lib.hid T
  have hul := h.1
  have hbl := h'.1
  have hxl := hx.1
  have hzl := pus_len (us := us) (bs := bs) hul hbl
  have HUL := Lib.hid hul
  have HBL := Lib.hid hbl
  have HXL := Lib.hid hxl
  have HZL := Lib.hid hzl
  have HU := Lib.hid h
  have HB := Lib.hid h'
  have HX := Lib.hid hx
  have HOK := Lib.hid hok
  have hn : n ≤ 5 := by omega
  clear T hul hbl hxl hzl h h' hx hok hmn hn5 he
  go_enter Tryz.func52, Tryz.ntmps52
  go_wp2_with fail
  refine HT.out.mono ?_
  rintro e w1 ⟨rfl, hb1⟩
  have HB1 := Lib.hid hb1
  clear hb1 HT
  generalize hzs : pus us bs = zs at *
  have HZS := Lib.hid hzs
  clear hzs
  go_wp2_with fail
  go_loopw [26] (fun t wr => ∃ k : Nat, k ≤ n ∧ t = .int .i64 k ∧ Hid (fitK zs xs k) ∧ Hid (Below w.heap.size w wr)) (fun t _ => n - (intOf t).toNat)
  case atStart => exact ⟨0, Nat.zero_le _, rfl, fun i hi => absurd hi (by omega), HB1.out⟩
  case round =>
    obtain ⟨k, hk, rfl, hF, hR⟩ := hrel
    by_cases hlt : k < n
    · have hB := hR.out
      obtain ⟨b, o, rfl, hb, hcell⟩ := HU.out.2 (by omega)
      obtain ⟨b', o', rfl, hb', hcell'⟩ := HB.out.2 (by omega)
      obtain ⟨b2, o2, rfl, hb2, hcell2⟩ := HX.out.2 (by omega)
      have hlen : k < us.length := by have := HUL.out; omega
      have hon := (hB.cell (p := ⟨b', o' + k, none⟩) hb').trans (hcell' k hlt)
      have hxk := (hB.cell (p := ⟨b2, o2 + k, none⟩) hb2).trans (hcell2 k hlt)
      have hu0 := hcell k hlt
      have hzk := pus_get (us := us) (bs := bs) (k := k) hlen (by have := HBL.out; omega)
      rw [HZS.out] at hzk
      have hmem : (us[k]?.getD U0) ∈ us := by rw [List.getElem?_eq_getElem hlen]; exact List.getElem_mem _
      obtain ⟨-, um0, um1, um2, um3, um4⟩ := uchk_ok (HOK.out _ hmem)
      have hfs : ((zs[k]?.getD PU0).dn ≤ xs[k]?.getD 0 ∧ xs[k]?.getD 0 ≤ (zs[k]?.getD PU0).up) → fitK zs xs (k + 1) := fun hh i hi => by
        by_cases hik : i = k
        · rw [hik]; exact hh
        · exact hF.out i (by omega)
      have hfn : ¬ ((zs[k]?.getD PU0).dn ≤ xs[k]?.getD 0 ∧ xs[k]?.getD 0 ≤ (zs[k]?.getD PU0).up) → ¬ En.FeasR zs xs := fun hh hf => hh ((feas_get hf).2 k (by have := HZL.out; omega))
      unfold PU0 at hfs hfn
      rw [hzk] at hfs hfn
      unfold PU.dn PU.up at hfs hfn
      simp only at hfs hfn
      rw [qs_eq, ← um4] at hfs hfn
      rw [← um4] at um1 um2 um3
      generalize bs[k]?.getD false = bk at *
      generalize xs[k]?.getD 0 = x at *
      generalize us[k]?.getD U0 = u at *
      obtain ⟨bus, mn, st, up, dn, start, idle, spin, on⟩ := u
      obtain ⟨A', n', c', ⟨h0', h1', h2', h3', h4', h5', h6', h7', h8'⟩, hs, hn'⟩ := hu0
      simp only at h0' h1' h2' h3' h4' h5' h6' h7' h8' hs hfs hfn um0 um1 um2 um3
      replace h0' := (hB.cell (p := ⟨b, o + k * 9, none⟩) hb).trans h0'
      replace h1' := (hB.cell (p := ⟨b, o + k * 9 + 1, none⟩) hb).trans h1'
      replace h2' := (hB.cell (p := ⟨b, o + k * 9 + 2, none⟩) hb).trans h2'
      replace h3' := (hB.cell (p := ⟨b, o + k * 9 + 3, none⟩) hb).trans h3'
      replace h4' := (hB.cell (p := ⟨b, o + k * 9 + 4, none⟩) hb).trans h4'
      replace h5' := (hB.cell (p := ⟨b, o + k * 9 + 5, none⟩) hb).trans h5'
      replace h6' := (hB.cell (p := ⟨b, o + k * 9 + 6, none⟩) hb).trans h6'
      replace h7' := (hB.cell (p := ⟨b, o + k * 9 + 7, none⟩) hb).trans h7'
      replace h8' := (hB.cell (p := ⟨b, o + k * 9 + 8, none⟩) hb).trans h8'
      have hbr : b < wr.heap.size := Nat.lt_of_lt_of_le hb hB.size
      have hbr' : b' < wr.heap.size := Nat.lt_of_lt_of_le hb' hB.size
      have hbr2 : b2 < wr.heap.size := Nat.lt_of_lt_of_le hb2 hB.size
      have hb9 : Below wr.heap.size wr (wr.alloc (.cells #[.int .i64 bus, .int .i64 mn, .slice A' n' c', .int .i64 up, .int .i64 dn, .int .i64 start, .int .i64 idle, .int .i64 spin, .int .i64 on] 48)) := (Below.refl _ _).alloc (Nat.le_refl _) _
      have hBw := hB.trans (hb9.mono hB.size)
      have HBW := Lib.hid hBw
      have hUb := Blk.new wr 48 #[.int .i64 bus, .int .i64 mn, .slice A' n' c', .int .i64 up, .int .i64 dn, .int .i64 start, .int .i64 idle, .int .i64 spin, .int .i64 on]
      clear hcell hcell' hcell2 hzk hmem um4
      cases bk
      · simp only [Bool.false_eq_true, if_false] at hfs hfn
        by_cases hx0 : x = 0
        · subst hx0
          have HFS := Lib.hid (hfs ⟨Int.le_refl _, Int.le_refl _⟩)
          clear hfs hfn hBw hb9 hB hR hF hUb hs
          go_wp2
          go_roundw
          case rel => exact ⟨k + 1, by omega, by go_num, HFS.out, HBW.out⟩
          case measure => simp [intOf]; omega
        · have HFN := Lib.hid (hfn (by omega))
          clear hfs hfn hBw hb9 hB hR hF hUb hs
          by_cases hx1 : x < 0
          · have d1 : decide (x < 0) = true := by simpa using hx1
            go_wp2
            go_ret2
            refine ⟨Or.inr ⟨?_, rfl⟩, HBW.out⟩
            rw [HZS.out]; exact HFN.out
          · have d1 : decide (x < 0) = false := by simpa using hx1
            have d2 : decide (0 < x) = true := by simp; omega
            go_wp2
            go_ret2
            refine ⟨Or.inr ⟨?_, rfl⟩, HBW.out⟩
            rw [HZS.out]; exact HFN.out
      · simp only [if_true] at hfs hfn
        have TM := fun W hW => umax_raw bus mn up dn start idle spin on A' n' c' st W hW hn'
        have hs9 := hs.below (hBw.mono (Nat.le_refl _))
        generalize umax ⟨bus, mn, st, up, dn, start, idle, spin, on⟩ = um at *
        have HTM := Lib.hid TM
        have HSS := Lib.hid hs9
        have HFS := Lib.hid hfs
        have HFN := Lib.hid hfn
        have hxk9 : (wr.alloc (.cells #[.int .i64 bus, .int .i64 mn, .slice A' n' c', .int .i64 up, .int .i64 dn, .int .i64 start, .int .i64 idle, .int .i64 spin, .int .i64 on] 48)).cell? ⟨b2, o2 + k, none⟩ = some (.int .i64 x) := by
          rw [World.cell?_alloc_past _ _ _ hbr2]; exact hxk
        have hb2r : b2 < (wr.alloc (.cells #[.int .i64 bus, .int .i64 mn, .slice A' n' c', .int .i64 up, .int .i64 dn, .int .i64 start, .int .i64 idle, .int .i64 spin, .int .i64 on] 48)).heap.size := by rw [World.size_alloc]; omega
        clear hfs hfn hb9 hB hR hF hs hs9 TM
        have hHS := fun w' (hk : Kp (wr.alloc (.cells #[.int .i64 bus, .int .i64 mn, .slice A' n' c', .int .i64 up, .int .i64 dn, .int .i64 start, .int .i64 idle, .int .i64 spin, .int .i64 on] 48)) w') => (⟨hk.blk hUb |>.nine, hk⟩ : _ ∧ Kp (wr.alloc (.cells #[.int .i64 bus, .int .i64 mn, .slice A' n' c', .int .i64 up, .int .i64 dn, .int .i64 start, .int .i64 idle, .int .i64 spin, .int .i64 on] 48)) w')
        go_wp2_with fail
        generalize hWW : wr.alloc (.cells #[.int .i64 bus, .int .i64 mn, .slice A' n' c', .int .i64 up, .int .i64 dn, .int .i64 start, .int .i64 idle, .int .i64 spin, .int .i64 on] 48) = W2 at *
        have hS : ∀ w', Kp W2 w' → (w'.cell? ⟨wr.heap.size, 0, none⟩ = some (.int .i64 bus) ∧ w'.cell? ⟨wr.heap.size, 1, none⟩ = some (.int .i64 mn) ∧ w'.cell? ⟨wr.heap.size, 2, none⟩ = some (.slice A' n' c') ∧ w'.cell? ⟨wr.heap.size, 3, none⟩ = some (.int .i64 up) ∧ w'.cell? ⟨wr.heap.size, 4, none⟩ = some (.int .i64 dn) ∧ w'.cell? ⟨wr.heap.size, 5, none⟩ = some (.int .i64 start) ∧ w'.cell? ⟨wr.heap.size, 6, none⟩ = some (.int .i64 idle) ∧ w'.cell? ⟨wr.heap.size, 7, none⟩ = some (.int .i64 spin) ∧ w'.cell? ⟨wr.heap.size, 8, none⟩ = some (.int .i64 on)) ∧ Kp W2 w' := fun w' hk => by
          obtain ⟨g0, g1, g2, g3, g4, g5, g6, g7, g8⟩ := (hk.blk hUb).nine
          exact ⟨⟨g0, g1, g2, g3, g4, g5, g6, g7, g8⟩, hk⟩
        have HS := Lib.hid hS
        have s5 := Kp.refl W2
        have HXK := Lib.hid hxk9
        clear hS hHS hWW hUb hxk9 h0' h1' h2' h3' h4' h5' h6' h7' h8' hxk hon hBw
        go_region_held3 (fun w' => (w'.cell? ⟨wr.heap.size, 0, none⟩ = some (.int .i64 bus) ∧ w'.cell? ⟨wr.heap.size, 1, none⟩ = some (.int .i64 mn) ∧ w'.cell? ⟨wr.heap.size, 2, none⟩ = some (.slice A' n' c') ∧ w'.cell? ⟨wr.heap.size, 3, none⟩ = some (.int .i64 up) ∧ w'.cell? ⟨wr.heap.size, 4, none⟩ = some (.int .i64 dn) ∧ w'.cell? ⟨wr.heap.size, 5, none⟩ = some (.int .i64 start) ∧ w'.cell? ⟨wr.heap.size, 6, none⟩ = some (.int .i64 idle) ∧ w'.cell? ⟨wr.heap.size, 7, none⟩ = some (.int .i64 spin) ∧ w'.cell? ⟨wr.heap.size, 8, none⟩ = some (.int .i64 on)) ∧ Kp W2 w')
          (first | (with_reducible refine HS.out _ ?_; with_reducible assumption) | (with_reducible refine HS.out _ (Kp.drew ?_); with_reducible assumption) | (with_reducible refine' HS.out _ (Kp.drew (And.right ?_)); rotate_left; with_reducible assumption))
          (first
            | (go_at_call 54; have hk := And.right ‹_ ∧ Kp W2 _›; refine (HTM.out _ (HSS.out.below hk)).mono ?_; rintro e v5 ⟨rfl, hb3⟩; have hp5 := Kp.trans hk hb3; clear hk hb3))
        rename_i hHeld
        clear hHeld
        have hxk5 : v5.cell? ⟨b2, o2 + k, none⟩ = some (.int .i64 x) := (Below.cell hp5 (p := ⟨b2, o2 + k, none⟩) hb2r).trans HXK.out
        have HB5 := Lib.hid (HBW.out.trans (Below.mono hp5 HBW.out.size))
        clear hp5 HS HTM HSS HBW HXK
        by_cases hx1 : x < mn
        · have d1 : decide (x < mn) = true := by simpa using hx1
          have HN := Lib.hid (HFN.out (by omega))
          go_wp2
          go_ret2
          refine ⟨Or.inr ⟨?_, rfl⟩, HB5.out⟩
          rw [HZS.out]; exact HN.out
        · have d1 : decide (x < mn) = false := by simpa using hx1
          by_cases hx2 : um < x
          · have d2 : decide (um < x) = true := by simpa using hx2
            have HN := Lib.hid (HFN.out (by omega))
            go_wp2
            go_ret2
            refine ⟨Or.inr ⟨?_, rfl⟩, HB5.out⟩
            rw [HZS.out]; exact HN.out
          · have d2 : decide (um < x) = false := by simpa using hx2
            have HN := Lib.hid (HFS.out ⟨by omega, by omega⟩)
            go_wp2
            go_roundw
            case rel => exact ⟨k + 1, by omega, by go_num, HN.out, HB5.out⟩
            case measure => simp [intOf]; omega
    · obtain rfl : k = n := by omega
      have hfe : En.FeasR zs xs := feas_of (by rw [HXL.out, HZL.out]) (by rw [HZL.out]; exact hF.out)
      have hT := ecost_any A C k c e' us xs wr (HU.out.below (hR.out.mono (Nat.le_refl _))) (HX.out.below (hR.out.mono (Nat.le_refl _))) hn (feas_inC HUL.out HBL.out HOK.out (by rw [HZS.out]; exact hfe))
      rw [ecI_all HUL.out HBL.out HXL.out, HZS.out] at hT
      have HT := Lib.hid hT
      have HFE := Lib.hid hfe
      clear hT hfe hF
      go_wp2_with fail
      refine HT.out.mono ?_
      rintro e w2 ⟨rfl, hb2⟩
      have HB2 := Lib.hid (hR.out.trans (hb2.mono hR.out.size))
      clear hb2 HT hR
      go_wp2
      go_ret2
      refine ⟨Or.inl ⟨?_, ?_⟩, HB2.out⟩
      · rw [HZS.out]; exact HFE.out
      · rw [HZS.out]; rfl

end Go.Proofs.YthpldmlpononhaaGreat
