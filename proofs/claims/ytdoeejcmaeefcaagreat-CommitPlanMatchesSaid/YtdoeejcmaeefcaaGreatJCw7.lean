/-
Package commit: Cost. No statement of the seat is proved here; no conditions beyond those of each theorem.
-/
import Derived.Test.YtdoeejcmaeefcaaGreatHT
namespace Go.Proofs.YtdoeejcmaeefcaaGreat
set_option linter.unusedVariables false
set_option linter.unusedSimpArgs false
open Go.RowKit
open Wd
open Cm

theorem ucost_bd {u : Un} (h : uchk u = 0) {bs : List Bool} (hb : bs.length ≤ 8) : 0 ≤ ucost u bs ∧ ucost u bs ≤ 16000000000 := by
  have hr := uchk_rest h
  have h1 := ustarts_bd (decide (0 < u.on)) bs
  have h2 := uon_bd bs
  unfold ucost
  generalize ustarts (decide (0 < u.on)) bs = a at *
  generalize uon bs = b at *
  have e1 : 0 ≤ u.start * a := Int.mul_nonneg (by omega) h1.1
  have e2 : 0 ≤ u.idle * b := Int.mul_nonneg (by omega) h2.1
  have e3 : u.start * a ≤ 1000000000 * 8 := Int.le_trans (Int.mul_le_mul_of_nonneg_right (show u.start ≤ 1000000000 by omega) h1.1) (Int.mul_le_mul_of_nonneg_left (by omega) (by omega))
  have e4 : u.idle * b ≤ 1000000000 * 8 := Int.le_trans (Int.mul_le_mul_of_nonneg_right (show u.idle ≤ 1000000000 by omega) h2.1) (Int.mul_le_mul_of_nonneg_left (by omega) (by omega))
  omega
theorem fixS_bd {us : List Un} (hu : ∀ u ∈ us, uchk u = 0) {pl : List (List Bool)} (hp : pl.length ≤ 8) : ∀ k, k ≤ us.length → 0 ≤ fixS us pl k ∧ fixS us pl k ≤ 16000000000 * k
  | 0, _ => by simp [fixS, sumN]
  | k + 1, hk => by
    have ih := fixS_bd hu hp k (by omega)
    have := ucost_bd (hu _ (gmem (d := U0) (show k < us.length by omega))) (bs := colB pl k) (by simp [colB]; exact hp)
    show 0 ≤ fixS us pl k + ucost (us[k]?.getD U0) (colB pl k) ∧ fixS us pl k + ucost (us[k]?.getD U0) (colB pl k) ≤ _
    omega
/-- A plan in memory. -/
def PlAt (w : World) (A : Option Addr) (n : Nat) (pl : List (List Bool)) : Prop :=
  pl.length = n ∧ (n ≠ 0 → ∃ b o, A = some ⟨b, o, none⟩ ∧ b < w.heap.size ∧ ∀ j, j < n → ∃ A' n' c', w.cell? ⟨b, o + j, none⟩ = some (.slice A' n' c') ∧ BsAt w A' n' (pl[j]?.getD []))
theorem PlAt.below {w w' : World} {A : Option Addr} {n : Nat} {pl : List (List Bool)} (h : PlAt w A n pl) (hb : Below w.heap.size w w') : PlAt w' A n pl := by
  refine ⟨h.1, fun hn => ?_⟩
  obtain ⟨b, o, rfl, hlt, hc⟩ := h.2 hn
  refine ⟨b, o, rfl, Nat.lt_of_lt_of_le hlt hb.size, fun j hj => ?_⟩
  obtain ⟨A', n', c', h1, h2⟩ := hc j hj
  exact ⟨A', n', c', (hb.cell (p := ⟨b, _, none⟩) hlt).trans h1, h2.below hb⟩
/-- A block of booleans. -/
def BRow (w : World) (g : Nat) (xs : List Bool) : Prop := Blk w g 4 (xs.map Value.bool).toArray
theorem BRow.cell {w : World} {g : Nat} {xs : List Bool} (h : BRow w g xs) {i : Nat} (hi : i < xs.length) : w.cell? ⟨g, i, none⟩ = some (.bool (xs[i]?.getD false)) := by
  rw [Blk.cell h i]
  simp [hi]
theorem BRow.set {w : World} {g : Nat} {xs : List Bool} (h : BRow w g xs) (i : Nat) (v : Bool) : BRow (w.setCell ⟨g, i, none⟩ (.bool v)) g (xs.set i v) := by
  have := Blk.set h i (.bool v)
  unfold BRow
  simpa [List.map_set] using this
theorem BRow.at {w : World} {g : Nat} {xs : List Bool} {n : Nat} (h : BRow w g xs) (hl : xs.length = n) : BsAt w (some ⟨g, 0, none⟩) n xs :=
  ⟨hl, fun _ => ⟨g, 0, rfl, Blk.lt h, fun j hj => by rw [Nat.zero_add]; exact h.cell (by omega)⟩⟩
theorem made_bools (n : Nat) : madeCells #[.bool false] n = ((List.replicate n false).map Value.bool).toArray := by
  apply Array.ext
  · simp [size_madeCells]
  · intro i h1 h2
    simp [madeCells, Nat.mod_one]
theorem info_bool : (Tryz.prog.info? 4).map (fun i => (i.zero, i.size, i.bytes)) = some (some (.bool false), 1, 1) := by kernel_rfl
theorem run_make_bools (k : Nat) (hk : k ≤ 1000000000) (w : World) :
    (Instr.makeSlice 35 (.int .i64 (k : Int)) (.int .i64 (k : Int))).run Tryz.prog w = .ok (.slice (some ⟨w.heap.size, 0, none⟩) k k) (w.alloc (.cells ((List.replicate k false).map Value.bool).toArray 4)) := by
  obtain ⟨i0, hi, hz0, hz1, hz2⟩ := info_parts info_bool
  have h := run_make (P := Tryz.prog) w 35 4 i0 _ Tryz.underlying35 hi hz0 .i64 .i64 k k (by omega) (Int.le_refl _) (by rw [hz2]; omega) (by omega)
  rw [h, hz1]
  simp only [Int.toNat_natCast, Value.cells, Nat.mul_one]
  rw [made_bools]

set_option maxRecDepth 100000 in
set_option maxHeartbeats 8000000 in
theorem ccost_raw (A B C : Option Addr) (n c m d p q : Nat) (us : List Un) (hs : List Hr) (pl : List (List Bool)) (w : World) (h : UsAt w A n us) (h' : HsAt w B m hs) (hp : PlAt w C p pl) (ho : HsOk hs) (hm : n ≤ 1000000000000) (hm' : m ≤ 1000000000000) :
    Calls Tryz.prog 13 #[.slice A n c, .slice B m d, .slice C p q] w fun e w' => e = .returned (.tuple #[.int .i64 (costV us hs pl).1, .int .i64 (costV us hs pl).2]) ∧ Below w.heap.size w w' := by
  have T0 := Lib.hid (fun W (hW : Below w.heap.size w W) => ccheck_raw A B n c m d us hs W (h.below hW) (h'.below hW) ho hm hm')
  by_cases hc : cchk us hs = 0
  · rw [hc] at T0
    by_cases hpm : p = m
    · subst hpm
      obtain ⟨k1, k2, k3, k4, k5⟩ := cchk_ok.1 hc
      have hn5 : n ≤ 5 := by have := h.1; omega
      have hm8 : p ≤ 8 := by have := h'.1; omega
      have HU := Lib.hid h
      have HH := Lib.hid h'
      have HP := Lib.hid hp
      have HC := Lib.hid hc
      have HK1 := Lib.hid k1
      have HK2 := Lib.hid k2
      have HK5 := Lib.hid k5
      have he1 : ((p : Int) != (p : Int)) = false := by simp
      have hmk := fun w => run_make_bools p (by omega) w
      clear h h' hp ho hc k1 k2 k3 k4 k5
      go_enter Tryz.func13, Tryz.ntmps13
      go_wp2_with fail
      refine (T0.out w (Below.refl _ _)).mono ?_
      rintro e w1 ⟨rfl, hb1⟩
      have HB1 := Lib.hid hb1
      clear hb1 T0
      go_wp2_with fail
      go_loopw [9, 31] (fun tz t wr => ∃ (k : Nat), k ≤ p ∧ t = .int .i64 k ∧ tz = .int .i64 (supS us hs pl k) ∧ Hid (Below w.heap.size w wr ∧ SupOk us hs pl k)) (fun _ t _ => p - (intOf t).toNat)
      case atStart => exact ⟨0, Nat.zero_le _, rfl, rfl, HB1.out, fun j hj => absurd hj (by omega)⟩
      case round =>
        clear HB1
        obtain ⟨k, hk, rfl, rfl, hR⟩ := hrel
        obtain ⟨wu, rfl⟩ : ∃ v, v = wr := ⟨_, rfl⟩
        by_cases hlt : k < p
        · obtain ⟨bh, oh, rfl, hbh, hch⟩ := HH.out.2 (by omega)
          obtain ⟨Ab, nb, cb, Ar, nr, cr, e0, e1, e2, hbd⟩ := hch k hlt
          obtain ⟨bp, op, rfl, hbp, hcp⟩ := HP.out.2 (by omega)
          obtain ⟨Ap, np, cp, p0, hrow⟩ := hcp k hlt
          have hkl : k < hs.length := by rw [HH.out.1]; exact hlt
          have hkp : k < pl.length := by rw [HP.out.1]; exact hlt
          have c0 := (hR.out.1.cell (p := ⟨bh, oh + k * 3, none⟩) hbh).trans e0
          have c1 := (hR.out.1.cell (p := ⟨bh, oh + k * 3 + 1, none⟩) hbh).trans e1
          have c2 := (hR.out.1.cell (p := ⟨bh, oh + k * 3 + 2, none⟩) hbh).trans e2
          have d0 := (hR.out.1.cell (p := ⟨bp, op + k, none⟩) hbp).trans p0
          have hbd2 := hbd.below hR.out.1
          have hrow2 := hrow.below hR.out.1
          have hok := HK5.out _ (gmem (d := Hr0) hkl)
          have hbound := supS_bd HK1.out HK2.out hR.out.2
          have NR := fun hh => costV_row (us := us) (hs := hs) (pl := pl) (k := k) HC.out hkp hh
          have NS := fun hh => costV_sup (us := us) (hs := hs) (pl := pl) (k := k) HC.out hkl hh
          have NX := fun y h1 h2 => hR.out.2.next (y := y) h1 h2
          have hnl : us.length = n := HU.out.1
          have hrl : (pl[k]?.getD []).length = np := hrow2.1
          generalize hs[k]?.getD Hr0 = hh at *
          generalize pl[k]?.getD [] = row at *
          obtain ⟨bids, need⟩ := hh
          simp only at c0 c1 c2 hbd2
          have kb := (Kp.refl wu).alloc (.cells #[.slice Ab nb cb, .slice Ar nr cr, .int .i64 need] 46)
          have hBH := Blk.new wu 46 #[.slice Ab nb cb, .slice Ar nr cr, .int .i64 need]
          have HB9 := Lib.hid (hR.out.1.trans (Below.mono kb hR.out.1.size))
          have d0' := (Below.cell kb (p := ⟨bp, op + k, none⟩) (Nat.lt_of_lt_of_le hbp hR.out.1.size)).trans d0
          have hbpl := Nat.lt_of_lt_of_le hbp HB9.out.size
          have i1 : (0 : Int) ≤ (k : Int) := by omega
          have i2 : (k : Int) < (p : Int) := by omega
          generalize hz : supS us hs pl k = z at *
          have HZ := Lib.hid hz
          by_cases hnp : np = n
          · subst hnp
            have he : echk us np = 0 := echk_of HK1.out hnl.symm HK2.out
            have T := Lib.hid (fun W (hW : Below wu.heap.size wu W) => hourCost_raw A Ap np c np cp us row Ab Ar nb cb nr cr need bids W (HU.out.below (hR.out.1.trans (Below.mono hW hR.out.1.size))) (hrow2.below hW) he (hbd2.below hW) hok)
            have hne : ((np : Int) != (np : Int)) = false := by simp
            have T2 := Lib.hid (fun W (hW : Kp (wu.alloc (.cells #[.slice Ab nb cb, .slice Ar nr cr, .int .i64 need] 46)) W) => T.out W (Kp.trans kb hW))
            have hS : ∀ w', Kp (wu.alloc (.cells #[.slice Ab nb cb, .slice Ar nr cr, .int .i64 need] 46)) w' → (w'.cell? ⟨wu.heap.size, 0, none⟩ = some (.slice Ab nb cb) ∧ w'.cell? ⟨wu.heap.size, 1, none⟩ = some (.slice Ar nr cr) ∧ w'.cell? ⟨wu.heap.size, 2, none⟩ = some (.int .i64 need) ∧ w'.cell? ⟨bp, op + k, none⟩ = some (.slice Ap np cp)) ∧ Kp (wu.alloc (.cells #[.slice Ab nb cb, .slice Ar nr cr, .int .i64 need] 46)) w' := fun w' hk => ⟨⟨(hk.blk hBH).cell 0, (hk.blk hBH).cell 1, (hk.blk hBH).cell 2, (Below.cell hk hbpl).trans d0'⟩, hk⟩
            have HS := Lib.hid hS
            have hk0 := Kp.refl (wu.alloc (.cells #[.slice Ab nb cb, .slice Ar nr cr, .int .i64 need] 46))
            have hB2 := hbound
            have NXX := Lib.hid NX
            have NSS := Lib.hid NS
            clear hS T NR NS NX hbd2 hrow2 hrow hok hBH kb hbd e0 e1 e2 p0 hch hcp hbound hR hz he
            cases hs9 : supH us ⟨bids, need⟩ row with
            | none =>
              rw [hs9] at T2
              have HE := Lib.hid (NSS.out hs9)
              simp only [optV, Option.getD_none, Option.isSome_none] at T2
              clear hs9 NXX NSS
              go_wp2_with fail
              go_region_held3 (fun w' => (w'.cell? ⟨wu.heap.size, 0, none⟩ = some (.slice Ab nb cb) ∧ w'.cell? ⟨wu.heap.size, 1, none⟩ = some (.slice Ar nr cr) ∧ w'.cell? ⟨wu.heap.size, 2, none⟩ = some (.int .i64 need) ∧ w'.cell? ⟨bp, op + k, none⟩ = some (.slice Ap np cp)) ∧ Kp (wu.alloc (.cells #[.slice Ab nb cb, .slice Ar nr cr, .int .i64 need] 46)) w')
                (first | (with_reducible refine HS.out _ ?_; with_reducible assumption) | (with_reducible refine HS.out _ (Kp.drew ?_); with_reducible assumption) | (with_reducible refine' HS.out _ (Kp.drew (And.right ?_)); rotate_left; with_reducible assumption))
                (first
                  | (go_at_call 31; have hk := And.right ‹_ ∧ Kp (wu.alloc (.cells #[.slice Ab nb cb, .slice Ar nr cr, .int .i64 need] 46)) _›; refine (T2.out _ hk).mono ?_; rintro e w2 ⟨rfl, hb2⟩; have hk2 := Kp.trans hk hb2; clear hk hb2))
              have HF := Lib.hid (HB9.out.trans (Below.mono hk2 HB9.out.size))
              clear hk0 hk2 HS T2
              go_wp2
              go_ret2
              exact ⟨by rw [HE.out]; rfl, HF.out⟩
            | some y =>
              rw [hs9] at T2
              obtain ⟨n1, n2⟩ := NXX.out y (by rw [hrl, hnl]) hs9
              have hyb := sup_bd HK1.out HK2.out (by rw [hrl, hnl]) hs9
              simp only [optV, Option.getD_some, Option.isSome_some] at T2
              have HN := Lib.hid (And.intro n1 n2)
              have wl : IntKind.i64.wrap (z + y) = z + y := IntWalk.i64_in _ (by omega)
              clear hs9 NXX NSS n1 n2 hyb hB2
              go_wp2_with fail
              go_region_held3 (fun w' => (w'.cell? ⟨wu.heap.size, 0, none⟩ = some (.slice Ab nb cb) ∧ w'.cell? ⟨wu.heap.size, 1, none⟩ = some (.slice Ar nr cr) ∧ w'.cell? ⟨wu.heap.size, 2, none⟩ = some (.int .i64 need) ∧ w'.cell? ⟨bp, op + k, none⟩ = some (.slice Ap np cp)) ∧ Kp (wu.alloc (.cells #[.slice Ab nb cb, .slice Ar nr cr, .int .i64 need] 46)) w')
                (first | (with_reducible refine HS.out _ ?_; with_reducible assumption) | (with_reducible refine HS.out _ (Kp.drew ?_); with_reducible assumption) | (with_reducible refine' HS.out _ (Kp.drew (And.right ?_)); rotate_left; with_reducible assumption))
                (first
                  | (go_at_call 31; have hk := And.right ‹_ ∧ Kp (wu.alloc (.cells #[.slice Ab nb cb, .slice Ar nr cr, .int .i64 need] 46)) _›; refine (T2.out _ hk).mono ?_; rintro e w2 ⟨rfl, hb2⟩; have hk2 := Kp.trans hk hb2; clear hk hb2))
              have HF := Lib.hid (HB9.out.trans (Below.mono hk2 HB9.out.size))
              clear hk0 hk2 HS T2
              go_wp2
              go_roundw
              case rel => exact ⟨k + 1, by omega, by go_num, by rw [HN.out.2], HF.out, HN.out.1⟩
              case measure => simp [intOf]; omega
          · have HE := Lib.hid (NR (by rw [hrl, hnl]; exact hnp))
            have hne : ((np : Int) != (n : Int)) = true := by simp; omega
            clear NR NS NX hbd2 hrow2 hrow hok hBH kb hbd e0 e1 e2 p0 hch hcp hbound hR hz
            go_wp2
            go_ret2
            exact ⟨by rw [HE.out]; rfl, HB9.out⟩
        · obtain rfl : p = k := by omega
          have hsb := supS_bd HK1.out HK2.out hR.out.2
          have HSO := Lib.hid hR.out.2
          have HLEN := Lib.hid (fun j (hj : j < p) => (HSO.out j hj).1.trans HU.out.1)
          have HBW := Lib.hid hR.out.1
          have HG := Lib.hid (fun (hf : FixOk us pl us.length) => costV_good (hs := hs) HC.out (by rw [HP.out.1, HH.out.1]) (by rw [HH.out.1]; exact HSO.out) hf)
          rw [HH.out.1, HU.out.1] at HG
          generalize supS us hs pl p = S at *
          clear hR HSO
          go_wp2_with fail
          go_loopw [9, 62] (fun tz t wr2 => ∃ (k : Nat), k ≤ n ∧ t = .int .i64 k ∧ tz = .int .i64 (S + fixS us pl k) ∧ Hid (Below w.heap.size w wr2 ∧ FixOk us pl k)) (fun _ t _ => n - (intOf t).toNat)
          case atStart => exact ⟨0, Nat.zero_le _, rfl, by simp [fixS, sumN], HBW.out, fun j hj => absurd hj (by omega)⟩
          case round =>
            clear HBW
            obtain ⟨k, hk, rfl, rfl, hR⟩ := hrel
            obtain ⟨wu, rfl⟩ : ∃ v, v = wr := ⟨_, rfl⟩
            by_cases hlt : k < n
            · obtain ⟨bu, ou, rfl, hbu, hcu⟩ := HU.out.2 (by omega)
              have hu9 := (hcu k hlt).below hbu hR.out.1
              have hkl : k < us.length := by rw [HU.out.1]; exact hlt
              have huv := HK2.out _ (gmem (d := U0) hkl)
              have NF := fun hf => hR.out.2.next (k := k) hf
              have NB := fun hf => costV_feas (us := us) (hs := hs) (pl := pl) (i := k) HC.out hkl hf
              have HFX := Lib.hid (show fixS us pl (k + 1) = fixS us pl k + ucost (us[k]?.getD U0) (colB pl k) from rfl)
              have hcl : (colB pl k).length = p := by simp [colB]; exact HP.out.1
              have hub := ucost_bd huv (bs := colB pl k) (by omega)
              have hfb := fixS_bd HK2.out (pl := pl) (by rw [HP.out.1]; exact hm8) k (by omega)
              have HCG := Lib.hid (fun j (hj : j < p) => colB_get (pl := pl) (i := k) (j := j) (by rw [HP.out.1]; exact hj))
              generalize us[k]?.getD U0 = u at *
              generalize colB pl k = col at *
              generalize fixS us pl k = F at *
              obtain ⟨bus, mn, st, up, dn, start, idle, spin, on⟩ := u
              obtain ⟨A', n', c', ⟨h0, h1, h2, h3, h4, h5', h6, h7, h8⟩, hst, hn'⟩ := hu9
              simp only at h0 h1 h2 h3 h4 h5' h6 h7 h8 hst
              have kb := (Kp.refl wu).alloc (.cells #[.int .i64 bus, .int .i64 mn, .slice A' n' c', .int .i64 up, .int .i64 dn, .int .i64 start, .int .i64 idle, .int .i64 spin, .int .i64 on] 39)
              have kc := kb.alloc (.cells (Array.replicate p (Value.bool false)) 4)
              have HST0 := Lib.hid (And.intro kc (And.intro ((Blk.new wu 39 #[.int .i64 bus, .int .i64 mn, .slice A' n' c', .int .i64 up, .int .i64 dn, .int .i64 start, .int .i64 idle, .int .i64 spin, .int .i64 on]).alloc (.cells (Array.replicate p (Value.bool false)) 4)) (show BRow ((wu.alloc (.cells #[.int .i64 bus, .int .i64 mn, .slice A' n' c', .int .i64 up, .int .i64 dn, .int .i64 start, .int .i64 idle, .int .i64 spin, .int .i64 on] 39)).alloc (.cells (Array.replicate p (Value.bool false)) 4)) (wu.heap.size + 1) (List.replicate p false) by
                have := Blk.new (wu.alloc (.cells #[.int .i64 bus, .int .i64 mn, .slice A' n' c', .int .i64 up, .int .i64 dn, .int .i64 start, .int .i64 idle, .int .i64 spin, .int .i64 on] 39)) 4 (Array.replicate p (Value.bool false))
                simpa [BRow] using this)))
              have i1 : (0 : Int) ≤ (k : Int) := by omega
              have i2 : (k : Int) < (n : Int) := by omega
              have HW := Lib.hid hR.out.1
              have HNF := Lib.hid NF
              have HNB := Lib.hid NB
              have HUV := Lib.hid huv
              have HSTT := Lib.hid hst
              clear NF NB hR huv hst kb kc hcu hkl
              go_wp2_with fail
              clear h0 h1 h2 h3 h4 h5' h6 h7 h8
              go_loopw [72] (fun t wr3 => ∃ (j : Nat) (xs : List Bool), j ≤ p ∧ t = .int .i64 j ∧ Hid (Kp wu wr3 ∧ Blk wr3 wu.heap.size 39 #[.int .i64 bus, .int .i64 mn, .slice A' n' c', .int .i64 up, .int .i64 dn, .int .i64 start, .int .i64 idle, .int .i64 spin, .int .i64 on] ∧ BRow wr3 (wu.heap.size + 1) xs ∧ xs.length = p ∧ ∀ i, i < j → xs[i]?.getD false = col[i]?.getD false)) (fun t _ => p - (intOf t).toNat)
              case atStart => exact ⟨0, _, Nat.zero_le _, rfl, HST0.out.1, HST0.out.2.1, HST0.out.2.2, by simp, fun j hj => absurd hj (by omega)⟩
              case round =>
                clear HST0
                obtain ⟨j, xs, hj, rfl, hR3⟩ := hrel
                obtain ⟨wt, rfl⟩ : ∃ v, v = wr := ⟨_, rfl⟩
                have hwt := HW.out.trans (Below.mono hR3.out.1 HW.out.size)
                by_cases hlj : j < p
                · obtain ⟨bp, op, rfl, hbp, hcp⟩ := HP.out.2 (by omega)
                  obtain ⟨Ap, np, cp, p0, hrow⟩ := hcp j hlj
                  have hrl := hrow.1
                  rw [HLEN.out j hlj] at hrl
                  subst hrl
                  obtain ⟨bq, oq, rfl, hbq, hcq⟩ := hrow.2 (by omega)
                  have d0 := (hwt.cell (p := ⟨bp, op + j, none⟩) hbp).trans p0
                  have d1 := (hwt.cell (p := ⟨bq, oq + k, none⟩) hbq).trans (hcq k hlt)
                  rw [← HCG.out j hlj] at d1
                  have z0 := hR3.out.2.2.1.cell (i := j) (by rw [hR3.out.2.2.2.1]; exact hlj)
                  have z1 := Blk.frozen hR3.out.2.2.1 j
                  have hnew : Kp wu (wt.setCell ⟨wu.heap.size + 1, j, none⟩ (.bool (col[j]?.getD false))) ∧ Blk (wt.setCell ⟨wu.heap.size + 1, j, none⟩ (.bool (col[j]?.getD false))) wu.heap.size 39 #[.int .i64 bus, .int .i64 mn, .slice A' n' c', .int .i64 up, .int .i64 dn, .int .i64 start, .int .i64 idle, .int .i64 spin, .int .i64 on] ∧ BRow (wt.setCell ⟨wu.heap.size + 1, j, none⟩ (.bool (col[j]?.getD false))) (wu.heap.size + 1) (xs.set j (col[j]?.getD false)) ∧ (xs.set j (col[j]?.getD false)).length = p ∧ ∀ i, i < j + 1 → (xs.set j (col[j]?.getD false))[i]?.getD false = col[i]?.getD false := by
                    refine ⟨Kp.set hR3.out.1 (p := ⟨wu.heap.size + 1, j, none⟩) (by dsimp only; omega) _, hR3.out.2.1.far (p := ⟨wu.heap.size + 1, j, none⟩) (by dsimp only; omega) _, hR3.out.2.2.1.set j _, by rw [List.length_set]; exact hR3.out.2.2.2.1, fun i hi => ?_⟩
                    rw [List.getElem?_set]
                    split
                    · rename_i he
                      subst he
                      rw [if_pos (by rw [hR3.out.2.2.2.1]; exact hlj)]
                      rfl
                    · exact hR3.out.2.2.2.2 i (by omega)
                  have HN := Lib.hid hnew
                  have j1 : (0 : Int) ≤ (j : Int) := by omega
                  have j2 : (j : Int) < (p : Int) := by omega
                  generalize col[j]?.getD false = cv at *
                  clear hnew hcp hcq p0 hrow hR3 hwt
                  go_wp2
                  go_roundw
                  case rel => exact ⟨j + 1, _, by omega, by go_num, HN.out⟩
                  case measure => simp [intOf]; omega
                · obtain rfl : p = j := by omega
                  have hxc : xs = col := ext_b (by rw [hR3.out.2.2.2.1, hcl]) fun i hi => hR3.out.2.2.2.2 i (by rw [hR3.out.2.2.2.1] at hi; exact hi)
                  subst hxc
                  obtain ⟨v0, v1, v2, v3, v4, v5, v6, v7, v8⟩ := hR3.out.2.1.nine
                  have hBs := hR3.out.2.2.1.at (n := p) hR3.out.2.2.2.1
                  have hsw := HSTT.out.below hR3.out.1
                  have TF := Lib.hid (fun W (hW : Kp wt W) => ufeasible_raw bus mn up dn start idle spin on A' n' c' st (some ⟨wu.heap.size + 1, 0, none⟩) p p xs W (hsw.below hW) hn' HUV.out (hBs.below hW) (by omega))
                  have TC := Lib.hid (fun W (hW : Kp wt W) => ufixed_raw bus mn up dn start idle spin on A' n' c' st (some ⟨wu.heap.size + 1, 0, none⟩) p p xs W (hsw.below hW) hn' HUV.out (hBs.below hW) (by omega))
                  have HWT := Lib.hid hwt
                  have HBX := Lib.hid hR3.out.2.1
                  generalize ucost (⟨bus, mn, st, up, dn, start, idle, spin, on⟩ : Un) xs = uc at *
                  have wl : IntKind.i64.wrap (S + F + uc) = S + (F + uc) := by rw [IntWalk.i64_in _ (by omega)]; omega
                  clear hBs hsw hwt hR3 hcl hub
                  cases hf : ufeas (⟨bus, mn, st, up, dn, start, idle, spin, on⟩ : Un) (uinit (⟨bus, mn, st, up, dn, start, idle, spin, on⟩ : Un)) xs with
                  | false =>
                    rw [hf] at TF
                    have HE := Lib.hid (HNB.out hf)
                    clear hf HNB HNF TC
                    go_wp2_with fail
                    refine (TF.out wt (Kp.refl wt)).mono ?_
                    rintro e w3 ⟨rfl, hb3⟩
                    have HF := Lib.hid (HWT.out.trans (hb3.mono HWT.out.size))
                    have hnf : (!false) = true := rfl
                    clear hb3 TF v0 v1 v2 v3 v4 v5 v6 v7 v8
                    go_wp2
                    go_ret2
                    exact ⟨by rw [HE.out]; rfl, HF.out⟩
                  | true =>
                    rw [hf] at TF
                    have HE := Lib.hid (HNF.out hf)
                    clear hf HNB HNF
                    go_wp2_with fail
                    refine (TF.out wt (Kp.refl wt)).mono ?_
                    rintro e w3 ⟨rfl, hb3⟩
                    have HK3 := Lib.hid hb3
                    have HF := Lib.hid (HWT.out.trans (hb3.mono HWT.out.size))
                    have hnf : (!true) = false := rfl
                    obtain ⟨y0, y1, y2, y3, y4, y5, y6, y7, y8⟩ := (HBX.out.below hb3 HBX.out.lt).nine
                    clear hb3 TF v0 v1 v2 v3 v4 v5 v6 v7 v8
                    go_wp2_with fail
                    refine (TC.out w3 HK3.out).mono ?_
                    rintro e w4 ⟨rfl, hb4⟩
                    have HF4 := Lib.hid (HF.out.trans (hb4.mono HF.out.size))
                    clear hb4 TC y0 y1 y2 y3 y4 y5 y6 y7 y8
                    go_wp2
                    go_roundw
                    case rel => exact ⟨k + 1, by omega, by go_num, by rw [HFX.out], HF4.out, HE.out⟩
                    case measure => simp [intOf]; omega
            · obtain rfl : n = k := by omega
              have HE := Lib.hid (HG.out hR.out.2)
              have HF := Lib.hid hR.out.1
              clear hR HG
              go_wp2
              go_ret2
              exact ⟨by rw [HE.out]; rfl, HF.out⟩
    · have HE := Lib.hid (costV_len (pl := pl) hc (by rw [hp.1, h'.1]; exact hpm))
      have hb : ((p : Int) != (m : Int)) = true := by simp; omega
      generalize costV us hs pl = cv at *
      clear h h' hp ho hc hpm
      go_enter Tryz.func13, Tryz.ntmps13
      go_wp2_with fail
      refine (T0.out w (Below.refl _ _)).mono ?_
      rintro e w1 ⟨rfl, hb1⟩
      go_wp2
      go_ret2
      exact ⟨by rw [HE.out]; rfl, hb1⟩
  · have HE := Lib.hid (show costV us hs pl = (0, cchk us hs) by unfold costV; rw [if_pos hc])
    have hb : (cchk us hs != 0) = true := by simpa using hc
    generalize costV us hs pl = cv at *
    generalize cchk us hs = ce at *
    clear h h' hp ho hc
    go_enter Tryz.func13, Tryz.ntmps13
    go_wp2_with fail
    refine (T0.out w (Below.refl _ _)).mono ?_
    rintro e w1 ⟨rfl, hb1⟩
    go_wp2
    go_ret2
    exact ⟨by rw [HE.out]; rfl, hb1⟩

end Go.Proofs.YtdoeejcmaeefcaaGreat
