/-
The reference of layer 29: cost. The reference of layer 29: Cost; copied. No statement of the seat is proved here; no conditions beyond those of each theorem.
-/
import Derived.Test.YtdoeejcmaeefcaaGreatJCra
import Derived.Test.YtdoeejcmaeefcaaGreatJCrc
import Derived.Test.YtdoeejcmaeefcaaGreatJN3
import Derived.Test.YtdoeejcmaeefcaaGreatJT8
namespace Go.Proofs.YtdoeejcmaeefcaaGreat
set_option linter.unusedVariables false
set_option linter.unusedSimpArgs false
open Go.RowKit
open Wd
open Cm

set_option maxRecDepth 100000 in
set_option maxHeartbeats 8000000 in
theorem r29cost_raw (A B C : Option Addr) (n c m d q : Nat) (us : List Un) (hs : List Hr) (pl : List (List Bool)) (w : World) (h : UsAt w A n us) (h' : HsAt w B m hs) (hp : PlAt w C m pl) (hc : cchk us hs = 0) (hl : ∀ r ∈ pl, r.length = n) :
    Calls Tryz.prog 35 #[.slice A n c, .slice B m d, .slice C m q] w fun e w' => e = .returned (.tuple #[.int .i64 (costV us hs pl).1, .bool (decide ((costV us hs pl).2 = 0))]) ∧ Below w.heap.size w w' := by
  obtain ⟨k1, k2, k3, k4, k5⟩ := cchk_ok.1 hc
  have hn5 : n ≤ 5 := by have := h.1; omega
  have hm8 : m ≤ 8 := by have := h'.1; omega
  have HU := Lib.hid h
  have HH := Lib.hid h'
  have HP := Lib.hid hp
  have HC := Lib.hid hc
  have HK1 := Lib.hid k1
  have HK2 := Lib.hid k2
  have HK5 := Lib.hid k5
  have HL := Lib.hid hl
  clear h h' hp hc k1 k2 k3 k4 k5 hl
  go_enter Tryz.func35, Tryz.ntmps35
  go_wp2_with fail
  go_loopw [8, 9] (fun tz t wr => ∃ (k : Nat), k ≤ n ∧ t = .int .i64 k ∧ tz = .int .i64 (fixS us pl k) ∧ Hid (Below w.heap.size w wr ∧ FixOk us pl k)) (fun _ t _ => n - (intOf t).toNat)
  case atStart => exact ⟨0, Nat.zero_le _, rfl, rfl, Below.refl _ _, fun j hj => absurd hj (by omega)⟩
  case round =>
    obtain ⟨k, hk, rfl, rfl, hR⟩ := hrel
    obtain ⟨wu, rfl⟩ : ∃ v, v = wr := ⟨_, rfl⟩
    by_cases hlt : k < n
    · obtain ⟨bu, ou, rfl, hbu, hcu⟩ := HU.out.2 (by omega)
      have hkl : k < us.length := by rw [HU.out.1]; exact hlt
      have huv := HK2.out _ (gmem (d := U0) hkl)
      have NF := fun hf => hR.out.2.next (k := k) hf
      have NB := fun hf => costV_feas (us := us) (hs := hs) (pl := pl) (i := k) HC.out hkl hf
      have HFX := Lib.hid (show fixS us pl (k + 1) = fixS us pl k + ucost (us[k]?.getD U0) (colB pl k) from rfl)
      have hub := ucost_bd huv (bs := colB pl k) (by simp [colB]; have := HP.out.1; omega)
      have hfb := fixS_bd HK2.out (pl := pl) (by rw [HP.out.1]; exact hm8) k (by omega)
      have TC := Lib.hid (rcolumn_raw C m q k pl wu (HP.out.below hR.out.1) (fun r hr => by rw [HL.out r hr]; exact hlt) (by omega))
      obtain ⟨A', n', c', ⟨h0, h1, h2, h3, h4, h5', h6, h7, h8⟩, hst, hn'⟩ := hcu k hlt
      generalize us[k]?.getD U0 = u at *
      generalize colB pl k = col at *
      generalize fixS us pl k = F at *
      obtain ⟨bus, mn, st, up, dn, start, idle, spin, on⟩ := u
      simp only at h0 h1 h2 h3 h4 h5' h6 h7 h8 hst
      have HCE := Lib.hid (fun W (hW : Below w.heap.size w W) => And.intro ((hW.cell (p := ⟨bu, _, none⟩) hbu).trans h0) (And.intro ((hW.cell (p := ⟨bu, _, none⟩) hbu).trans h1) (And.intro ((hW.cell (p := ⟨bu, _, none⟩) hbu).trans h2) (And.intro ((hW.cell (p := ⟨bu, _, none⟩) hbu).trans h3) (And.intro ((hW.cell (p := ⟨bu, _, none⟩) hbu).trans h4) (And.intro ((hW.cell (p := ⟨bu, _, none⟩) hbu).trans h5') (And.intro ((hW.cell (p := ⟨bu, _, none⟩) hbu).trans h6) (And.intro ((hW.cell (p := ⟨bu, _, none⟩) hbu).trans h7) ((hW.cell (p := ⟨bu, _, none⟩) hbu).trans h8)))))))))
      have i1 : (0 : Int) ≤ (k : Int) := by omega
      have i2 : (k : Int) < (n : Int) := by omega
      have TF := Lib.hid (fun W (hW : Below w.heap.size w W) (B2 : Option Addr) (cb2 : Nat) (hB : BsAt W B2 m col) => rfeasible_raw bus mn up dn start idle spin on A' n' c' st B2 m cb2 col W (hst.below hW) huv hB (by omega))
      have TX := Lib.hid (fun W (hW : Below w.heap.size w W) (B2 : Option Addr) (cb2 : Nat) (hB : BsAt W B2 m col) => rfixed_raw bus mn up dn start idle spin on A' n' c' st B2 m cb2 col W (hst.below hW) huv hB (by omega))
      have HW := Lib.hid hR.out.1
      have HNF := Lib.hid NF
      have HNB := Lib.hid NB
      generalize ucost (⟨bus, mn, st, up, dn, start, idle, spin, on⟩ : Un) col = uc at *
      have wl : IntKind.i64.wrap (F + uc) = F + uc := IntWalk.i64_in _ (by omega)
      clear NF NB hR huv hst hcu hkl h0 h1 h2 h3 h4 h5' h6 h7 h8 hub
      go_wp2_with fail
      refine TC.out.mono ?_
      rintro e w2 ⟨B2, cb2, rfl, hbs, hb2⟩
      have HW2 := Lib.hid (HW.out.trans (hb2.mono HW.out.size))
      have HBS := Lib.hid hbs
      obtain ⟨u0, u1, u2, u3, u4, u5, u6, u7, u8⟩ := HCE.out w2 HW2.out
      have T1 := Lib.hid (TF.out w2 HW2.out B2 cb2 hbs)
      clear hb2 TC TF hbs
      cases hf : ufeas (⟨bus, mn, st, up, dn, start, idle, spin, on⟩ : Un) (uinit (⟨bus, mn, st, up, dn, start, idle, spin, on⟩ : Un)) col with
      | false =>
        rw [hf] at T1
        have HE := Lib.hid (HNB.out hf)
        clear hf HNB HNF TX
        go_wp2_with fail
        refine T1.out.mono ?_
        rintro e w3 ⟨rfl, hb3⟩
        have HF := Lib.hid (HW2.out.trans (hb3.mono HW2.out.size))
        have hnf : (!false) = true := rfl
        clear hb3 T1 u0 u1 u2 u3 u4 u5 u6 u7 u8
        go_wp2
        go_ret2
        exact ⟨by rw [HE.out]; rfl, HF.out⟩
      | true =>
        rw [hf] at T1
        have HE := Lib.hid (HNF.out hf)
        clear hf HNB HNF
        go_wp2_with fail
        refine T1.out.mono ?_
        rintro e w3 ⟨rfl, hb3⟩
        have HW3 := Lib.hid (HW2.out.trans (hb3.mono HW2.out.size))
        have hnf : (!true) = false := rfl
        have T2 := Lib.hid (TX.out w3 HW3.out B2 cb2 (HBS.out.below hb3))
        clear hb3 T1 u0 u1 u2 u3 u4 u5 u6 u7 u8
        obtain ⟨u0, u1, u2, u3, u4, u5, u6, u7, u8⟩ := HCE.out w3 HW3.out
        go_wp2_with fail
        refine T2.out.mono ?_
        rintro e w4 ⟨rfl, hb4⟩
        have HW4 := Lib.hid (HW3.out.trans (hb4.mono HW3.out.size))
        clear hb4 T2 TX u0 u1 u2 u3 u4 u5 u6 u7 u8
        go_wp2
        go_roundw
        case rel => exact ⟨k + 1, by omega, by go_num, by rw [HFX.out], HW4.out, HE.out⟩
        case measure => simp [intOf]; omega
    · obtain rfl : n = k := by omega
      have HG := Lib.hid (fun (hf : SupOk us hs pl hs.length) => costV_good (hs := hs) HC.out (by rw [HP.out.1, HH.out.1]) hf (by rw [HU.out.1]; exact hR.out.2))
      have hfb := fixS_bd HK2.out (pl := pl) (by rw [HP.out.1]; exact hm8) n (by rw [HU.out.1]; exact Nat.le_refl _)
      rw [HH.out.1, HU.out.1] at HG
      have HBW := Lib.hid hR.out.1
      generalize fixS us pl n = F at *
      clear hR
      go_wp2_with fail
      go_loopw [8, 11] (fun tz t wr2 => ∃ (k : Nat), k ≤ m ∧ t = .int .i64 k ∧ tz = .int .i64 (F + supS us hs pl k) ∧ Hid (Below w.heap.size w wr2 ∧ SupOk us hs pl k)) (fun _ t _ => m - (intOf t).toNat)
      case atStart => exact ⟨0, Nat.zero_le _, rfl, by simp [supS, sumN], HBW.out, fun j hj => absurd hj (by omega)⟩
      case round =>
        clear HBW
        obtain ⟨k, hk, rfl, rfl, hR⟩ := hrel
        obtain ⟨wu, rfl⟩ : ∃ v, v = wr := ⟨_, rfl⟩
        by_cases hlt : k < m
        · obtain ⟨bh, oh, rfl, hbh, hch⟩ := HH.out.2 (by omega)
          obtain ⟨Ab, nb, cb, Ar, nr, cr, e0, e1, e2, hbd⟩ := hch k hlt
          obtain ⟨bp, op, rfl, hbp, hcp⟩ := HP.out.2 (by omega)
          obtain ⟨Ap, np, cp, p0, hrow⟩ := hcp k hlt
          have hkl : k < hs.length := by rw [HH.out.1]; exact hlt
          have hkp : k < pl.length := by rw [HP.out.1]; exact hlt
          have hok := HK5.out _ (gmem (d := Hr0) hkl)
          have hrl := HL.out _ (gmem (d := []) hkp)
          have hnl : us.length = n := HU.out.1
          have hbound := supS_bd HK1.out HK2.out hR.out.2
          have NS := fun hh => costV_sup (us := us) (hs := hs) (pl := pl) (k := k) HC.out hkl hh
          have NX := fun y h1 h2 => hR.out.2.next (y := y) h1 h2
          generalize hs[k]?.getD Hr0 = hh at *
          generalize pl[k]?.getD [] = row at *
          obtain ⟨bids, need⟩ := hh
          simp only at e0 e1 e2 hbd
          have hnp : np = n := by rw [← hrow.1]; exact hrl
          subst hnp
          have he : echk us np = 0 := echk_of HK1.out hnl.symm HK2.out
          have HCE := Lib.hid (fun W (hW : Below w.heap.size w W) => And.intro ((hW.cell (p := ⟨bh, _, none⟩) hbh).trans e0) (And.intro ((hW.cell (p := ⟨bh, _, none⟩) hbh).trans e1) (And.intro ((hW.cell (p := ⟨bh, _, none⟩) hbh).trans e2) ((hW.cell (p := ⟨bp, _, none⟩) hbp).trans p0))))
          have T1 := Lib.hid (fun W (hW : Below w.heap.size w W) => rfirm_raw Ab Ar nb cb nr cr need bids W (hbd.below hW))
          have T2 := Lib.hid (fun W (hW : Below w.heap.size w W) => rerange_ok A Ap np c np cp us row W (HU.out.below hW) (hrow.below hW) he)
          have T3 := Lib.hid (fun f W (hW : Below w.heap.size w W) => rlc_any A Ap np c np cp us row f W (HU.out.below hW) (hrow.below hW) (by omega) (by omega))
          have hfd := firm_bd hok
          have hf0 := (firm_pos hok).1
          obtain ⟨_, _, q1, q2⟩ := hchk_ok hok
          simp only at q1 q2
          obtain ⟨u5, hmn, hokz⟩ := echk_ok he
          have HS := Lib.hid (show supH us ⟨bids, need⟩ row = if rmin (us.zip row) ≤ firm ⟨bids, need⟩ ∧ firm ⟨bids, need⟩ + need ≤ rmax (us.zip row) then some (lcV us row np (firm ⟨bids, need⟩)) else none by rw [← hnl]; rfl)
          have HSB := Lib.hid (fun y hy => sup_bd (us := us) (h := ⟨bids, need⟩) (bs := row) (y := y) HK1.out HK2.out (by rw [hrl, hnl]) hy)
          have HRL := Lib.hid (show row.length = us.length by rw [hrl, hnl])
          have HNX := Lib.hid NX
          have HNS := Lib.hid NS
          have T3f := Lib.hid (T3.out (firm ⟨bids, need⟩))
          clear T3
          generalize firm ⟨bids, need⟩ = f at *
          generalize rmin (us.zip row) = lo at *
          generalize rmax (us.zip row) = hi at *
          generalize lcV us row np f = lc at *
          generalize aerr us row np f = ae at *
          generalize hz : supS us hs pl k = z at *
          have HZ := Lib.hid hz
          have wl : IntKind.i64.wrap (f + need) = f + need := IntWalk.i64_in _ (by omega)
          have HB0 := Lib.hid hR.out.1
          obtain ⟨c0, c1, c2, d0⟩ := HCE.out wu HB0.out
          have i1 : (0 : Int) ≤ (k : Int) := by omega
          have i2 : (k : Int) < (m : Int) := by omega
          clear hR NX NS hch hcp e0 e1 e2 p0 hbd hrow hkl hkp hok hz he hokz hmn
          go_wp2_with fail
          refine (T1.out wu HB0.out).mono ?_
          rintro e w1 ⟨rfl, hb1⟩
          have HB1 := Lib.hid (HB0.out.trans (hb1.mono HB0.out.size))
          clear hb1 T1 c0 c1 c2 d0
          obtain ⟨c0, c1, c2, d0⟩ := HCE.out w1 HB1.out
          go_wp2_with fail
          refine (T2.out w1 HB1.out).mono ?_
          rintro e w2 ⟨rfl, hb2⟩
          have HB2 := Lib.hid (HB1.out.trans (hb2.mono HB1.out.size))
          clear hb2 T2 c0 c1 c2 d0
          obtain ⟨c0, c1, c2, d0⟩ := HCE.out w2 HB2.out
          by_cases g1 : f < lo
          · have HE := Lib.hid (HNS.out (HS.out.trans (if_neg (fun hh => by omega))))
            clear T3f
            go_wp2
            go_ret2
            exact ⟨by rw [HE.out]; rfl, HB2.out⟩
          · by_cases g2 : hi < f + need
            · have HE := Lib.hid (HNS.out (HS.out.trans (if_neg (fun hh => by omega))))
              clear T3f
              go_wp2
              go_ret2
              exact ⟨by rw [HE.out]; rfl, HB2.out⟩
            · have hy := HS.out.trans (if_pos ⟨by omega, by omega⟩)
              obtain ⟨n1, n2⟩ := HNX.out lc HRL.out hy
              have hyb := HSB.out lc hy
              have HN := Lib.hid (And.intro n1 n2)
              have wl2 : IntKind.i64.wrap (F + z + lc) = F + (z + lc) := by rw [IntWalk.i64_in _ (by omega)]; omega
              clear hy n1 n2 hyb
              go_wp2_with fail
              refine (T3f.out w2 HB2.out).mono ?_
              rintro e w3 ⟨rfl, hb3⟩
              have HB3 := Lib.hid (HB2.out.trans (hb3.mono HB2.out.size))
              clear hb3 T3f c0 c1 c2 d0
              go_wp2
              go_roundw
              case rel => exact ⟨k + 1, by omega, by go_num, by rw [HN.out.2], HB3.out, HN.out.1⟩
              case measure => simp [intOf]; omega
        · obtain rfl : m = k := by omega
          have HE := Lib.hid (HG.out hR.out.2)
          have HF := Lib.hid hR.out.1
          clear hR HG
          go_wp2
          go_ret2
          exact ⟨by rw [HE.out]; simp only [Int.add_comm]; rfl, HF.out⟩

end Go.Proofs.YtdoeejcmaeefcaaGreat

namespace Go.Proofs.YtdoeejcmaeefcaaGreat
set_option linter.unusedVariables false
set_option linter.unusedSimpArgs false
open Go.RowKit
open Wd
open Cm

theorem costV_three {us : List Un} {hs : List Hr} {pl : List (List Bool)} (h0 : cchk us hs = 0) (h : (costV us hs pl).2 ≠ 0) : costV us hs pl = (0, 3) := by
  unfold costV at h ⊢
  rw [if_neg (by simp [h0])] at h ⊢
  split
  · rename_i h1
    rw [if_pos h1] at h
    cases e : costB us hs pl with
    | none => rfl
    | some v => rw [e] at h; simp at h
  · rfl

set_option maxRecDepth 100000 in
set_option maxHeartbeats 8000000 in
theorem r29Cost_raw (A B C : Option Addr) (n c m d p q : Nat) (us : List Un) (hs : List Hr) (pl : List (List Bool)) (w : World) (h : UsAt w A n us) (h' : HsAt w B m hs) (hp : PlAt w C p pl) :
    Calls Tryz.prog 14 #[.slice A n c, .slice B m d, .slice C p q] w fun e w' => e = .returned (.tuple #[.int .i64 (costV us hs pl).1, .int .i64 (costV us hs pl).2]) ∧ Below w.heap.size w w' := by
  have T0 := Lib.hid (r29check_raw A B n c m d us hs w h h')
  by_cases hc : cchk us hs = 0
  · rw [hc] at T0
    by_cases hpm : p = m
    · subst hpm
      have HU := Lib.hid h
      have HH := Lib.hid h'
      have HP := Lib.hid hp
      have HC := Lib.hid hc
      have hm8 : p ≤ 8 := by have := (cchk_ok.1 hc).2.2.2.1; have := h'.1; omega
      have he1 : ((p : Int) != (p : Int)) = false := by simp
      clear h h' hp hc
      go_enter Tryz.func14, Tryz.ntmps14
      go_wp2_with fail
      refine T0.out.mono ?_
      rintro e w1 ⟨rfl, hb1⟩
      have HB1 := Lib.hid hb1
      clear hb1 T0
      go_wp2_with fail
      go_loopw [9] (fun t wr => ∃ (k : Nat), k ≤ p ∧ t = .int .i64 k ∧ Hid (Below w.heap.size w wr ∧ ∀ j, j < k → (pl[j]?.getD []).length = n)) (fun t _ => p - (intOf t).toNat)
      case atStart => exact ⟨0, Nat.zero_le _, rfl, HB1.out, fun j hj => absurd hj (by omega)⟩
      case round =>
        clear HB1
        obtain ⟨k, hk, rfl, hR⟩ := hrel
        obtain ⟨wu, rfl⟩ : ∃ v, v = wr := ⟨_, rfl⟩
        by_cases hlt : k < p
        · obtain ⟨bp, op, rfl, hbp, hcp⟩ := HP.out.2 (by omega)
          obtain ⟨Ap, np, cp, p0, hrow⟩ := hcp k hlt
          have d0 := (hR.out.1.cell (p := ⟨bp, op + k, none⟩) hbp).trans p0
          have hrl := hrow.1
          have hkp : k < pl.length := by rw [HP.out.1]; exact hlt
          have i1 : (0 : Int) ≤ (k : Int) := by omega
          have i2 : (k : Int) < (p : Int) := by omega
          have HR := Lib.hid hR.out
          have HRL := Lib.hid hrl
          clear hcp p0 hrow hR hrl
          by_cases hnp : np = n
          · have hne : ((np : Int) != (n : Int)) = false := by simp; omega
            have HN := Lib.hid (show ∀ j, j < k + 1 → (pl[j]?.getD []).length = n from fun j hj => by
              by_cases e : j = k
              · subst e; rw [HRL.out]; exact hnp
              · exact HR.out.2 j (by omega))
            clear hnp
            go_wp2
            go_roundw
            case rel => exact ⟨k + 1, by omega, by go_num, HR.out.1, HN.out⟩
            case measure => simp [intOf]; omega
          · have hne : ((np : Int) != (n : Int)) = true := by simp; omega
            have HE := Lib.hid (costV_row (us := us) (hs := hs) HC.out hkp (by rw [HRL.out, HU.out.1]; exact hnp))
            clear hnp
            go_wp2
            go_ret2
            exact ⟨by rw [HE.out]; rfl, HR.out.1⟩
        · obtain rfl : p = k := by omega
          have hrows : ∀ r ∈ pl, r.length = n := fun r hr => by
            obtain ⟨j, hj, rfl⟩ := List.mem_iff_getElem.1 hr
            have := hR.out.2 j (by rw [← HP.out.1]; exact hj)
            rw [List.getElem?_eq_getElem hj] at this
            exact this
          have T := r29cost_raw A B C n c p d q us hs pl wu (HU.out.below hR.out.1) (HH.out.below hR.out.1) (HP.out.below hR.out.1) HC.out hrows
          have HB := Lib.hid hR.out.1
          obtain ⟨v, x, hcv⟩ : ∃ v x, costV us hs pl = (v, x) := ⟨_, _, rfl⟩
          have H3 := Lib.hid (fun (hx : x ≠ 0) => costV_three (us := us) (hs := hs) (pl := pl) HC.out (by rw [hcv]; exact hx))
          rw [hcv] at T
          have HCV := Lib.hid hcv
          simp only at T
          clear hR hrows hcv
          by_cases hx : x = 0
          · rw [decide_eq_true hx] at T
            subst hx
            have hnt : (!true) = false := rfl
            have T := Lib.hid T
            clear H3
            go_wp2_with fail
            refine T.out.mono ?_
            rintro e w2 ⟨rfl, hb2⟩
            have HB2 := Lib.hid (HB.out.trans (hb2.mono HB.out.size))
            clear hb2 T
            go_wp2
            go_ret2
            exact ⟨by rw [HCV.out]; rfl, HB2.out⟩
          · rw [decide_eq_false hx] at T
            have HX := Lib.hid (H3.out hx)
            have hnf : (!false) = true := rfl
            have T := Lib.hid T
            clear H3 hx
            go_wp2_with fail
            refine T.out.mono ?_
            rintro e w2 ⟨rfl, hb2⟩
            have HB2 := Lib.hid (HB.out.trans (hb2.mono HB.out.size))
            clear hb2 T
            go_wp2
            go_ret2
            exact ⟨by rw [HX.out]; rfl, HB2.out⟩
    · have HE := Lib.hid (costV_len (pl := pl) hc (by rw [hp.1, h'.1]; exact hpm))
      have hb : ((p : Int) != (m : Int)) = true := by simp; omega
      generalize costV us hs pl = cv at *
      clear h h' hp hc hpm
      go_enter Tryz.func14, Tryz.ntmps14
      go_wp2_with fail
      refine T0.out.mono ?_
      rintro e w1 ⟨rfl, hb1⟩
      go_wp2
      go_ret2
      exact ⟨by rw [HE.out]; rfl, hb1⟩
  · have HE := Lib.hid (show costV us hs pl = (0, cchk us hs) by unfold costV; rw [if_pos hc])
    have hb : (cchk us hs != 0) = true := by simpa using hc
    generalize costV us hs pl = cv at *
    generalize cchk us hs = ce at *
    clear h h' hp hc
    go_enter Tryz.func14, Tryz.ntmps14
    go_wp2_with fail
    refine T0.out.mono ?_
    rintro e w1 ⟨rfl, hb1⟩
    go_wp2
    go_ret2
    exact ⟨by rw [HE.out]; rfl, hb1⟩

end Go.Proofs.YtdoeejcmaeefcaaGreat
