/-
Package commit: newSearch, the walk. No statement of the seat is proved here; no conditions beyond those of each theorem.
-/
import Derived.Test.YtdoeejcmaeefcaaGreatHY
namespace Go.Proofs.YtdoeejcmaeefcaaGreat
set_option linter.unusedVariables false
set_option linter.unusedSimpArgs false
open Go.RowKit
open Wd
open Cm

/-- What newSearch returns. -/
def NsR (us : List Un) (hs : List Hr) (A : Option Addr) (n c m : Nat) (w : World) (e : Ending) (w' : World) : Prop :=
  ∃ (gs : Nat) (As : Option Addr) (ca mb : Nat), e = .returned (.pointer (some ⟨gs, 0, none⟩)) ∧ SrAt us (rowsOf us hs) gs A n c m As ca mb w' ∧ KnR (bsV us (rowsOf us hs) n) n w' mb ∧ Below w.heap.size w w' ∧ w.heap.size ≤ gs ∧ w.heap.size ≤ mb

set_option maxRecDepth 100000 in
set_option maxHeartbeats 8000000 in
theorem newSearch_raw (A B : Option Addr) (n c m d : Nat) (us : List Un) (hs : List Hr) (w : World) (h : UsAt w A n us) (h' : HsAt w B m hs) (hc : cchk us hs = 0) :
    Calls Tryz.prog 37 #[.slice A n c, .slice B m d] w (NsR us hs A n c m w) := by
  obtain ⟨k1, k2, k3, k4, k5⟩ := cchk_ok.1 hc
  have hnl := h.1
  have hml := h'.1
  have hn5 : n ≤ 5 := by omega
  have hm8 : m ≤ 8 := by omega
  have HU := Lib.hid h
  have HH := Lib.hid h'
  have HK1 := Lib.hid k1
  have HK2 := Lib.hid k2
  have HK5 := Lib.hid k5
  have he : echk us n = 0 := echk_of k1 hnl.symm k2
  have HE := Lib.hid he
  have hN : 2 ^ n ≤ 32 := Nat.le_trans (Nat.pow_le_pow_right (by decide) hn5) (by decide)
  have hmm := @run_makeMap Tryz.prog
  have hmk := fun W => run_make_rows (2 ^ n) (by omega) W
  have w9 : wrap64 ((2 : Int) ^ n) = ((2 ^ n : Nat) : Int) := by
    have h9 : ((2 : Int) ^ n) = ((2 ^ n : Nat) : Int) := by push_cast; rfl
    rw [h9]
    revert hN
    generalize 2 ^ n = M
    intro hN
    exact (wrap_in (M : Int) (by omega) (by omega)).2
  have hmk2 : ∀ W : World, (Instr.makeSlice 99 (.int .i64 (wrap64 ((2 : Int) ^ n))) (.int .i64 (wrap64 ((2 : Int) ^ n)))).run Tryz.prog W = .ok (.slice (some ⟨W.heap.size, 0, none⟩) (2 ^ n) (2 ^ n)) (W.alloc (.cells (rowA (2 ^ n) fun _ => none) 101)) := fun W => by rw [w9]; exact hmk W
  have HW9 := Lib.hid w9
  have HS0 := Lib.hid (S0_ok us A n c m w.heap.size)
  have e0 : (((Tryz.zeroCells98.setIfInBounds 0 (.slice A n c)).setIfInBounds 1 (.int .i64 (m : Int))).setIfInBounds 263 (.map (some w.heap.size))) = S0 A n c m w.heap.size := by kernel_rfl
  rw [← e0] at HS0
  clear e0
  clear h h' hc k1 k2 k3 k4 k5 he hmk w9
  go_enter Tryz.func37, Tryz.ntmps37
  go_wp2_with fail
  generalize (((Tryz.zeroCells98.setIfInBounds 0 (.slice A n c)).setIfInBounds 1 (.int .i64 (m : Int))).setIfInBounds 263 (.map (some w.heap.size))) = cs0 at *
  have HST := Lib.hid (show L1 us hs A n c m w 0 ((w.alloc (.map #[] 0)).alloc (.cells cs0 98)) from ⟨none, 0, [], cs0, ((Kp.refl w).alloc _).alloc _, (Below.heap_alloc _ _ _ (by simp)).trans (heap_alloc_new w _), Blk.new1 w _ _ _, HS0.out, Own.nil _ _ _ _, fun j hj => absurd hj (by omega)⟩)
  obtain ⟨ii, hii, hz0, hz1, hz2⟩ := info_parts info_row
  have HI := Lib.hid hii
  have HZ0 := Lib.hid hz0
  have HZ1 := Lib.hid hz1
  have HZ2 := Lib.hid hz2
  have HNN := Lib.hid hN
  clear hii hz0 hz1 hz2 HS0 hN hmm
  go_loopw [27] (fun t wr => ∃ (k : Nat), k ≤ m ∧ t = .int .i64 k ∧ Hid (L1 us hs A n c m w k wr)) (fun t _ => m - (intOf t).toNat)
  case atStart => exact ⟨0, Nat.zero_le _, rfl, HST.out⟩
  case round =>
    clear HST
    obtain ⟨k, hk, rfl, hR⟩ := hrel
    obtain ⟨wu, rfl⟩ : ∃ v, v = wr := ⟨_, rfl⟩
    by_cases hlt : k < m
    · obtain ⟨bh, oh, rfl, hbh, hch⟩ := HH.out.2 (by omega)
      obtain ⟨Ab, nb, cb, Ar, nr, cr, e0, e1, e2, hbd⟩ := hch k hlt
      have hkl : k < hs.length := by rw [HH.out.1]; exact hlt
      have hok := HK5.out _ (gmem (d := Hr0) hkl)
      obtain ⟨As, ca, gl, cs, q1, q2, q3, q4, q5, q6⟩ := id hR.out
      have c0 := (q1.cell (p := ⟨bh, oh + k * 3, none⟩) hbh).trans e0
      have c1 := (q1.cell (p := ⟨bh, oh + k * 3 + 1, none⟩) hbh).trans e1
      have c2 := (q1.cell (p := ⟨bh, oh + k * 3 + 2, none⟩) hbh).trans e2
      have HBD := Lib.hid (hbd.below q1)
      have HQ6 := Lib.hid q6
      have HKK := Lib.hid (show hs[k]?.getD Hr0 = hs[k]?.getD Hr0 from rfl)
      generalize hhh : hs[k]?.getD Hr0 = hh at *
      have HHH := Lib.hid hhh
      clear hhh
      obtain ⟨bids, need⟩ := hh
      simp only at c0 c1 c2 e2
      have HOK := Lib.hid hok
      have kU := (Kp.refl wu).alloc (.cells #[.slice Ab nb cb, .slice Ar nr cr, .int .i64 need] 46)
      have hBH := Blk.new wu 46 #[.slice Ab nb cb, .slice Ar nr cr, .int .i64 need]
      have hUs : (wu.alloc (.cells #[.slice Ab nb cb, .slice Ar nr cr, .int .i64 need] 46)).heap.size = wu.heap.size + 1 := by simp
      have i1 : (0 : Int) ≤ (k : Int) := by omega
      have i2 : (k : Int) < (m : Int) := by omega
      have HQ := Lib.hid (And.intro q1 (And.intro q2 (And.intro q3 (And.intro q4 q5))))
      clear hR q1 q2 q3 q4 q5 q6 hbd hch e0 e1 e2 hok
      go_wp2_with fail
      have e9 : (2 : Int) ^ n = ((2 ^ n : Nat) : Int) := by push_cast; rfl
      simp only [e9]
      have HCH := Lib.hid (fun (q : Nat) (W : World) (hc0 : W.cell? ⟨w.heap.size + 1, 0, none⟩ = some (.slice A n c)) (hg : w.heap.size + 1 < W.heap.size) (hq : q < 2 ^ n) => choice_raw (w.heap.size + 1) A n c q W hc0 hg hn5 hq)
      have HN2 := Lib.hid (show 2 ^ n ≤ 32 from HNN.out)
      generalize hNe : 2 ^ n = N at *
      have HNE := Lib.hid hNe
      generalize hU : wu.alloc (.cells #[.slice Ab nb cb, .slice Ar nr cr, .int .i64 need] 46) = U at *
      have HST2 := Lib.hid (show Kp U (U.alloc (.cells (rowA N fun _ => none) 101)) ∧ Blk (U.alloc (.cells (rowA N fun _ => none) 101)) (wu.heap.size + 1) 101 (rowA N (fun q => if q < 0 then supH us ⟨bids, need⟩ (bitsN n q) else none)) from ⟨(Kp.refl U).alloc _, by rw [← hUs]; exact Blk.new U _ _⟩)
      have hgU : w.heap.size + 1 < U.heap.size := by rw [hUs]; have := HQ.out.2.2.1.lt; omega
      have g0U : U.cell? ⟨w.heap.size + 1, 0, none⟩ = some (.slice A n c) := ((Kp.blk kU HQ.out.2.2.1).cell 0).trans HQ.out.2.2.2.1.units
      have HG0 := Lib.hid g0U
      have HU1 := Lib.hid (And.intro kU (And.intro hBH hUs))
      have hN32 : N ≤ 32 := HN2.out
      clear hNe e9 hU kU hBH hUs g0U c0 c1 c2 hmk2
      go_loopw [37] (fun t wi => ∃ (cc : Nat), cc ≤ N ∧ t = .int .i64 cc ∧ Hid (Kp U wi ∧ Blk wi (wu.heap.size + 1) 101 (rowA N (fun q => if q < cc then supH us ⟨bids, need⟩ (bitsN n q) else none)))) (fun t _ => N - (intOf t).toNat)
      case atStart => exact ⟨0, Nat.zero_le _, rfl, HST2.out⟩
      case round =>
        clear HST2
        obtain ⟨cc, hcc, rfl, hR⟩ := hrel
        obtain ⟨wi, rfl⟩ : ∃ v, v = wr := ⟨_, rfl⟩
        by_cases hlc : cc < N
        · obtain ⟨r1, r2⟩ := id hR.out
          have hbx := Kp.blk r1 HU1.out.2.1
          have g0 := (Below.cell r1 (p := ⟨w.heap.size + 1, 0, none⟩) hgU).trans HG0.out
          have T1 := Lib.hid (fun W (hk : Kp wi W) => HCH.out cc W ((Below.cell hk (p := ⟨w.heap.size + 1, 0, none⟩) (Nat.lt_of_lt_of_le hgU r1.size)).trans g0) (Nat.lt_of_lt_of_le hgU (Nat.le_trans r1.size hk.size)) hlc)
          have hwW : ∀ W, Kp wi W → Below w.heap.size w W := fun W hk => Below.trans HQ.out.1 ((Kp.trans HU1.out.1 (Kp.trans r1 hk)).mono HQ.out.1.size)
          have T2 := Lib.hid (fun W (hk : Kp wi W) g (hb : BRow W g (bitsN n cc)) => hourCost_raw A (some ⟨g, 0, none⟩) n c n n us (bitsN n cc) Ab Ar nb cb nr cr need bids W (HU.out.below (hwW W hk)) (hb.at (bitsN_len n cc)) HE.out (HBD.out.below (Kp.trans HU1.out.1 (Kp.trans r1 hk))) HOK.out)
          have hS : ∀ w', Kp wi w' → (w'.cell? ⟨wu.heap.size, 0, none⟩ = some (.slice Ab nb cb) ∧ w'.cell? ⟨wu.heap.size, 1, none⟩ = some (.slice Ar nr cr) ∧ w'.cell? ⟨wu.heap.size, 2, none⟩ = some (.int .i64 need)) ∧ Kp wi w' := fun w' hk => ⟨⟨(hk.blk hbx).cell 0, (hk.blk hbx).cell 1, (hk.blk hbx).cell 2⟩, hk⟩
          have HS := Lib.hid hS
          have HR2 := Lib.hid (And.intro r1 r2)
          have hk0 := Kp.refl wi
          have i3 : (0 : Int) ≤ (cc : Int) := by omega
          have i4 : (cc : Int) < (N : Int) := by omega
          generalize hos : supH us ⟨bids, need⟩ (bitsN n cc) = o at *
          have HOS := Lib.hid hos
          unfold optV at T2
          generalize hox : o.getD 0 = ox at *
          generalize hoy : o.isSome = oy at *
          have HOX := Lib.hid (And.intro hox hoy)
          clear hS r1 r2 hbx g0 hwW hR hos hox hoy
          go_wp2_with fail
          go_region_held3 (fun w' => (w'.cell? ⟨wu.heap.size, 0, none⟩ = some (.slice Ab nb cb) ∧ w'.cell? ⟨wu.heap.size, 1, none⟩ = some (.slice Ar nr cr) ∧ w'.cell? ⟨wu.heap.size, 2, none⟩ = some (.int .i64 need)) ∧ Kp wi w')
            (first | (with_reducible refine HS.out _ ?_; with_reducible assumption) | (with_reducible refine HS.out _ (Kp.drew ?_); with_reducible assumption) | (with_reducible refine' HS.out _ (Kp.drew (And.right ?_)); rotate_left; with_reducible assumption))
            (first
              | (go_at_call 39; have hk := And.right ‹_ ∧ Kp wi _›; refine (T1.out _ hk).mono ?_; rintro e w2 ⟨g, rfl, hrow, hgg, hb2⟩; have hk2 := Kp.trans hk hb2; clear hk hb2 hgg)
              | (go_at_call 31; have hk := And.right ‹_ ∧ Kp wi _›; refine (T2.out _ hk _ (by assumption)).mono ?_; rintro e w3 ⟨rfl, hb3⟩; have hk3 := Kp.trans hk hb3; clear hk hb3))
          have hbR := Kp.blk hk3 HR2.out.2
          have y0 := (hbR.cell (cc * 2)).trans (rowA_even hlc)
          have y1 := (hbR.cell (cc * 2 + 1)).trans (rowA_odd hlc)
          have f0 := hbR.frozen (cc * 2)
          have f1 := hbR.frozen (cc * 2 + 1)
          have e5 : (((rowA N (fun q => if q < cc then supH us ⟨bids, need⟩ (bitsN n q) else none)).setIfInBounds (cc * 2) (.bool oy)).setIfInBounds (cc * 2 + 1) (.int .i64 ox)) = rowA N (fun q => if q < cc + 1 then supH us ⟨bids, need⟩ (bitsN n q) else none) := by
            rw [← HOX.out.1, ← HOX.out.2, rowA_set hlc]
            refine rowA_congr fun q hq => ?_
            unfold upd
            by_cases hqc : q = cc
            · subst hqc
              rw [if_pos rfl, if_pos (by omega), HOS.out]
            · rw [if_neg hqc]
              dsimp only
              by_cases hq2 : q < cc
              · rw [if_pos hq2, if_pos (by omega)]
              · rw [if_neg hq2, if_neg (by omega)]
          have HNX := Lib.hid (show Kp U ((w3.setCell ⟨wu.heap.size + 1, cc * 2, none⟩ (.bool oy)).setCell ⟨wu.heap.size + 1, cc * 2 + 1, none⟩ (.int .i64 ox)) ∧ Blk ((w3.setCell ⟨wu.heap.size + 1, cc * 2, none⟩ (.bool oy)).setCell ⟨wu.heap.size + 1, cc * 2 + 1, none⟩ (.int .i64 ox)) (wu.heap.size + 1) 101 (rowA N (fun q => if q < cc + 1 then supH us ⟨bids, need⟩ (bitsN n q) else none)) from
            ⟨((Kp.trans HR2.out.1 hk3).set (p := ⟨wu.heap.size + 1, cc * 2, none⟩) (Nat.le_of_eq HU1.out.2.2) _).set (p := ⟨wu.heap.size + 1, cc * 2 + 1, none⟩) (Nat.le_of_eq HU1.out.2.2) _, e5 ▸ ((hbR.set (cc * 2) (.bool oy)).set (cc * 2 + 1) (.int .i64 ox))⟩)
          clear hbR e5 hk2 hk3 hk0 HS T1 T2 hrow
          go_wp2
          go_roundw
          case rel => exact ⟨cc + 1, by omega, by go_num, HNX.out⟩
          case measure => simp [intOf]; omega
        · obtain rfl : cc = N := by omega
          obtain ⟨r1, r2⟩ := id hR.out
          have hrow : Blk wi (wu.heap.size + 1) 101 (rowA cc fun q => supH us ⟨bids, need⟩ (bitsN n q)) := by
            have e5 : rowA cc (fun q => if q < cc then supH us ⟨bids, need⟩ (bitsN n q) else none) = rowA cc fun q => supH us ⟨bids, need⟩ (bitsN n q) := rowA_congr fun q hq => if_pos hq
            rw [← e5]; exact r2
          have kui := Kp.trans HU1.out.1 r1
          have a2 := (Kp.refl wi).alloc (.cells #[.slice (some ⟨wu.heap.size + 1, 0, none⟩) cc cc] 99)
          have m2 := Blk.new wi 99 #[.slice (some ⟨wu.heap.size + 1, 0, none⟩) cc cc]
          have o2 := (HQ.out.2.2.2.2.keep kui).keep a2
          have hgs := Kp.blk kui HQ.out.2.2.1
          have s2 := (hgs.cell 2).trans HQ.out.2.2.2.1.sup
          have hz2 : w.heap.size + 1 + 1 ≤ wi.heap.size := hgs.lt
          have hza : w.heap.size + 1 + 1 ≤ (wi.alloc (.cells #[.slice (some ⟨wu.heap.size + 1, 0, none⟩) cc cc] 99)).heap.size := Nat.le_trans hz2 a2.size
          have hgsa := Kp.blk a2 hgs
          have s2a := (hgsa.cell 2).trans HQ.out.2.2.2.1.sup
          have HROW := Lib.hid (Kp.blk a2 hrow)
          have HKA := Lib.hid (Kp.trans kui a2)
          clear hR r1 r2 hrow kui hgs
          go_wp2_with (first
            | (at_builtin; refine wpList_append_my rfl (base := w.heap.size + 1 + 1) (e := 99) (size := 1) (bytes := 24) (.tmp 60) (.tmp 62) 91 rfl Tryz.underlying91 HI.out HZ0.out HZ1.out HZ2.out rfl (by decide) (news := [.slice (some ⟨wu.heap.size + 1, 0, none⟩) cc cc]) rfl (by exact o2) rfl (by exact Blk.src m2 rfl (one_slice (some ⟨wu.heap.size + 1, 0, none⟩) cc cc)) (by simp only [maxLen]; omega) (by omega) (by exact hza) ?_
               intro B2 cb2 w5 hO2 hb5 hk5
               have hgs5 : Blk w5 (w.heap.size + 1) 98 cs := (hb5.block _ (Nat.lt_succ_self _)).trans hgsa
               have t2 := (hgs5.cell 2).trans HQ.out.2.2.2.1.sup
               have t3 := hgs5.frozen 2
               have HAP := Lib.hid (And.intro hO2 (And.intro hb5 hk5))
               clear hO2 hb5 hk5 hgs5 hgsa s2a))
          have HFIN := Lib.hid (show L1 us hs A n c m w (k + 1) (w5.setCell ⟨w.heap.size + 1, 2, none⟩ (.slice B2 (k + 1) cb2)) by
            obtain rfl := HNE.out
            obtain ⟨q1, q2, q3, q4, q5⟩ := HQ.out
            obtain ⟨o5, b5, k5⟩ := HAP.out
            have hKA := HKA.out
            exact L1.more (wr := wi.alloc (.cells #[.slice (some ⟨wu.heap.size + 1, 0, none⟩) (2 ^ n) (2 ^ n)] 99)) (gr := wu.heap.size + 1) (gl := gl) (Kp.trans q1 hKA) ((hKA.block _ (Array.getElem?_eq_some_iff.1 q2).1).trans q2) (hKA.blk q3) q4 (q5.keep hKA) (fun j hj => hKA.blk (HQ6.out j hj)) (by rw [HHH.out]; exact HROW.out) o5 b5 k5)
          clear o2 m2 a2 s2 hza hz2 HAP
          go_wp2
          go_roundw
          case rel => exact ⟨k + 1, by omega, by go_num, HFIN.out⟩
          case measure => simp [intOf]; omega
    · obtain rfl : m = k := by omega
      obtain ⟨As, ca, hL⟩ := hR.out.sup hml hnl
      have HL := Lib.hid (hL.weak (D' := D3 us 0) (fun i j b h => absurd h.2 (by omega)))
      clear hR hL
      go_wp2_with fail
      go_loopw [69] (fun t wr => ∃ i : Nat, i ≤ n ∧ t = .int .i64 i ∧ Hid (L3 us hs A n c m w As ca (D3 us i) wr)) (fun t _ => n - (intOf t).toNat)
      case atStart => exact ⟨0, Nat.zero_le _, rfl, HL.out⟩
      case round =>
        clear HL
        obtain ⟨i, hi, rfl, hR⟩ := hrel
        obtain ⟨wv, rfl⟩ : ∃ v, v = wr := ⟨_, rfl⟩
        by_cases hlt : i < n
        · obtain ⟨bu, ou, rfl, hbu, hcu⟩ := HU.out.2 (by omega)
          have hw := hR.out.1
          have hkl : i < us.length := by rw [hnl]; exact hlt
          have huv := HK2.out _ (gmem (d := U0) hkl)
          have hu9 := (hcu i hlt).below hbu hw
          have hu0 := hcu i hlt
          generalize hue : us[i]?.getD U0 = u at *
          obtain ⟨bus, mn, st, up, dn, start, idle, spin, on⟩ := u
          obtain ⟨A', n', c', ⟨h0, h1, h2, h3, h4, h5', h6, h7, h8⟩, hst, hn'⟩ := hu0
          have hrest := uchk_rest huv
          simp only at h0 h1 h2 h3 h4 h5' h6 h7 h8 hst hrest
          replace h0 := (Below.cell hw (p := ⟨bu, ou + i * 9, none⟩) hbu).trans h0
          replace h1 := (Below.cell hw (p := ⟨bu, ou + i * 9 + 1, none⟩) hbu).trans h1
          replace h2 := (Below.cell hw (p := ⟨bu, ou + i * 9 + 2, none⟩) hbu).trans h2
          replace h3 := (Below.cell hw (p := ⟨bu, ou + i * 9 + 3, none⟩) hbu).trans h3
          replace h4 := (Below.cell hw (p := ⟨bu, ou + i * 9 + 4, none⟩) hbu).trans h4
          replace h5' := (Below.cell hw (p := ⟨bu, ou + i * 9 + 5, none⟩) hbu).trans h5'
          replace h6 := (Below.cell hw (p := ⟨bu, ou + i * 9 + 6, none⟩) hbu).trans h6
          replace h7 := (Below.cell hw (p := ⟨bu, ou + i * 9 + 7, none⟩) hbu).trans h7
          replace h8 := (Below.cell hw (p := ⟨bu, ou + i * 9 + 8, none⟩) hbu).trans h8
          have TN := Lib.hid (fun (s : Int) (b : Bool) (W : World) (hk : Kp w W) (h1 : -dn ≤ s) (h2 : s ≤ up) => uNext_any bus mn up dn start idle spin on A' n' c' st s b W (hst.below hk) hn' huv h1 h2)
          have HUE := Lib.hid hue
          have wl : IntKind.i64.wrap (-dn) = -dn := IntWalk.i64_in _ (by omega)
          have HS4 := Lib.hid (show L3 us hs (some ⟨bu, ou, none⟩) n c m w As ca (D4 us i (6 - dn).toNat) (wv.alloc (.cells #[.int .i64 bus, .int .i64 mn, .slice A' n' c', .int .i64 up, .int .i64 dn, .int .i64 start, .int .i64 idle, .int .i64 spin, .int .i64 on] 39)) ∧ Blk (wv.alloc (.cells #[.int .i64 bus, .int .i64 mn, .slice A' n' c', .int .i64 up, .int .i64 dn, .int .i64 start, .int .i64 idle, .int .i64 spin, .int .i64 on] 39)) wv.heap.size 39 #[.int .i64 bus, .int .i64 mn, .slice A' n' c', .int .i64 up, .int .i64 dn, .int .i64 start, .int .i64 idle, .int .i64 spin, .int .i64 on] from ⟨(hR.out.keep ((Kp.refl wv).alloc _)).weak (by
            rintro i' j' b' ⟨hv, h | ⟨rfl, h⟩⟩
            · exact ⟨hv, h⟩
            · exfalso
              unfold Vd at hv
              rw [hue] at hv
              simp only at hv
              omega), Blk.new wv _ _⟩)
          have HGV := Lib.hid (show wv.heap.size ≠ w.heap.size + 1 by obtain ⟨_, _, _, cs, f4, _⟩ := hR.out; have := f4.lt; omega)
          have hup1 : 1 ≤ up ∧ up ≤ 6 := by omega
          have hdn1 : 1 ≤ dn ∧ dn ≤ 6 := by omega
          obtain ⟨u1, u2⟩ := hup1
          obtain ⟨d1, d2⟩ := hdn1
          have j1 : (0 : Int) ≤ (i : Int) := by omega
          have j2 : (i : Int) < (n : Int) := by omega
          have j3 : (i : Int) < 5 := by omega
          have v0 := Blk.nine (HS4.out.2)
          clear hR hue huv hst hn' hcu hu9 hrest hw hkl
          obtain ⟨v0, v1, v2, v3, v4, v5, v6, v7, v8⟩ := v0
          go_wp2_with fail
          go_loopw [14] (fun t wr => ∃ (j : Nat) (s : Int), s = (j : Int) - 6 ∧ -dn ≤ s ∧ s ≤ up + 1 ∧ t = .int .i64 s ∧ Hid (L3 us hs (some ⟨bu, ou, none⟩) n c m w As ca (D4 us i j) wr ∧ Blk wr wv.heap.size 39 #[.int .i64 bus, .int .i64 mn, .slice A' n' c', .int .i64 up, .int .i64 dn, .int .i64 start, .int .i64 idle, .int .i64 spin, .int .i64 on])) (fun t _ => (7 - intOf t).toNat)
          case atStart => exact ⟨(6 - dn).toNat, -dn, by omega, by omega, by omega, rfl, HS4.out⟩
          case round =>
            clear HS4 v0 v1 v2 v3 v4 v5 v6 v7 v8 h0 h1 h2 h3 h4 h5' h6 h7 h8
            obtain ⟨j, s, hsj, hs1, hs2, rfl, hR⟩ := hrel
            obtain ⟨wx, rfl⟩ : ∃ v, v = wr := ⟨_, rfl⟩
            have HSJ := Lib.hid hsj
            obtain ⟨v0, v1, v2, v3, v4, v5, v6, v7, v8⟩ := Blk.nine hR.out.2
            by_cases hle : s ≤ up
            · have kx := (Kp.refl wx).alloc (.cells #[.bool false, .bool true] 4)
              have HS5 := Lib.hid (show L3 us hs (some ⟨bu, ou, none⟩) n c m w As ca (D5 us i j 0) (wx.alloc (.cells #[.bool false, .bool true] 4)) ∧ Blk (wx.alloc (.cells #[.bool false, .bool true] 4)) wv.heap.size 39 #[.int .i64 bus, .int .i64 mn, .slice A' n' c', .int .i64 up, .int .i64 dn, .int .i64 start, .int .i64 idle, .int .i64 spin, .int .i64 on] ∧ Blk (wx.alloc (.cells #[.bool false, .bool true] 4)) wx.heap.size 4 #[.bool false, .bool true] from ⟨(hR.out.1.keep kx).weak (by
                rintro i' j' b' ⟨hv, h | ⟨rfl, h | ⟨rfl, h⟩⟩⟩
                · exact ⟨hv, Or.inl h⟩
                · exact ⟨hv, Or.inr ⟨rfl, h⟩⟩
                · omega), Kp.blk kx hR.out.2, Blk.new wx _ _⟩)
              have hj13 : j < 13 := by omega
              have HGX := Lib.hid (show wx.heap.size ≠ w.heap.size + 1 by obtain ⟨_, _, _, cs, f4, _⟩ := hR.out.1; have := f4.lt; omega)
              clear hR hsj kx
              go_wp2_with fail
              go_loopw [85] (fun t wr => ∃ (b : Nat), b ≤ 2 ∧ t = .int .i64 b ∧ Hid (L3 us hs (some ⟨bu, ou, none⟩) n c m w As ca (D5 us i j b) wr ∧ Blk wr wv.heap.size 39 #[.int .i64 bus, .int .i64 mn, .slice A' n' c', .int .i64 up, .int .i64 dn, .int .i64 start, .int .i64 idle, .int .i64 spin, .int .i64 on] ∧ Blk wr wx.heap.size 4 #[.bool false, .bool true])) (fun t _ => 2 - (intOf t).toNat)
              case atStart => exact ⟨0, Nat.zero_le _, rfl, HS5.out⟩
              case round =>
                clear HS5 v0 v1 v2 v3 v4 v5 v6 v7 v8
                obtain ⟨b, hb, rfl, hR⟩ := hrel
                obtain ⟨wy, rfl⟩ : ∃ v, v = wr := ⟨_, rfl⟩
                by_cases hb2 : b < 2
                · obtain ⟨v0, v1, v2, v3, v4, v5, v6, v7, v8⟩ := Blk.nine hR.out.2.1
                  have y0 : wy.cell? ⟨wx.heap.size, b, none⟩ = some (.bool (b == 1)) := by
                    rw [hR.out.2.2.cell b]
                    rcases (show b = 0 ∨ b = 1 by omega) with rfl | rfl <;> rfl
                  have T := TN.out s (b == 1) wy hR.out.1.1 hs1 hle
                  have HRY := Lib.hid hR.out
                  generalize hbb : (b == 1) = bb at *
                  generalize hot : (unext (⟨bus, mn, st, up, dn, start, idle, spin, on⟩ : Un) s bb).getD 0 = ot at *
                  generalize hok : (unext (⟨bus, mn, st, up, dn, start, idle, spin, on⟩ : Un) s bb).isSome = ok at *
                  have HOT := Lib.hid (And.intro hbb (And.intro hot hok))
                  have HT := Lib.hid T
                  have wl2 : IntKind.i64.wrap (s + 6) = (j : Int) := by rw [IntWalk.i64_in _ (by omega)]; have := HSJ.out; omega
                  have j4 : (0 : Int) ≤ (j : Int) := by omega
                  have j5 : (j : Int) < 13 := by omega
                  have j6 : (0 : Int) ≤ (b : Int) := by omega
                  have j7 : (b : Int) < 2 := by omega
                  clear hR hbb hot hok T
                  go_wp2_with fail
                  refine HT.out.mono ?_
                  rintro e w7 ⟨rfl, hb7⟩
                  have hL7 := HRY.out.1.keep hb7
                  obtain ⟨⟨x1, z1⟩, ⟨x2, z2⟩, z3, z4⟩ := hL7.blk (i := i) (j := j) (b := b) (by omega) hj13 hb2
                  have HN7 := Lib.hid (show L3 us hs (some ⟨bu, ou, none⟩) n c m w As ca (D5 us i j (b + 1)) ((w7.setCell ⟨w.heap.size + 1, 3 + i * 52 + j * 4 + b * 2, none⟩ (.bool ok)).setCell ⟨w.heap.size + 1, 3 + i * 52 + j * 4 + b * 2 + 1, none⟩ (.int .i64 ot)) ∧ Blk ((w7.setCell ⟨w.heap.size + 1, 3 + i * 52 + j * 4 + b * 2, none⟩ (.bool ok)).setCell ⟨w.heap.size + 1, 3 + i * 52 + j * 4 + b * 2 + 1, none⟩ (.int .i64 ot)) wv.heap.size 39 #[.int .i64 bus, .int .i64 mn, .slice A' n' c', .int .i64 up, .int .i64 dn, .int .i64 start, .int .i64 idle, .int .i64 spin, .int .i64 on] ∧ Blk ((w7.setCell ⟨w.heap.size + 1, 3 + i * 52 + j * 4 + b * 2, none⟩ (.bool ok)).setCell ⟨w.heap.size + 1, 3 + i * 52 + j * 4 + b * 2 + 1, none⟩ (.int .i64 ot)) wx.heap.size 4 #[.bool false, .bool true] by
                    obtain ⟨q1, q2, q3⟩ := HOT.out
                    have hgx : wx.heap.size ≠ w.heap.size + 1 := HGX.out
                    refine ⟨hL7.put (by omega) hj13 hb2 ?_ ?_ ?_, ((Kp.blk hb7 HRY.out.2.1).far (p := ⟨w.heap.size + 1, _, none⟩) HGV.out _).far (p := ⟨w.heap.size + 1, _, none⟩) HGV.out _, ((Kp.blk hb7 HRY.out.2.2).far (p := ⟨w.heap.size + 1, _, none⟩) hgx _).far (p := ⟨w.heap.size + 1, _, none⟩) hgx _⟩
                    · rw [HUE.out, ← HSJ.out, q1, q3]
                    · rw [HUE.out, ← HSJ.out, q1, q2]
                    · rintro i' j' b' ⟨hv, h | ⟨rfl, h | ⟨rfl, h⟩⟩⟩
                      · exact Or.inl ⟨hv, Or.inl h⟩
                      · exact Or.inl ⟨hv, Or.inr ⟨rfl, Or.inl h⟩⟩
                      · by_cases hbe : b' = b
                        · exact Or.inr ⟨rfl, rfl, hbe⟩
                        · exact Or.inl ⟨hv, Or.inr ⟨rfl, Or.inr ⟨rfl, by omega⟩⟩⟩)
                  clear hL7 hb7 HT y0 v0 v1 v2 v3 v4 v5 v6 v7 v8
                  go_wp2
                  go_roundw
                  case rel => exact ⟨b + 1, by omega, by go_num, HN7.out⟩
                  case measure => simp [intOf]; omega
                · obtain rfl : b = 2 := by omega
                  have HN4 := Lib.hid (show L3 us hs (some ⟨bu, ou, none⟩) n c m w As ca (D4 us i (j + 1)) wy ∧ Blk wy wv.heap.size 39 #[.int .i64 bus, .int .i64 mn, .slice A' n' c', .int .i64 up, .int .i64 dn, .int .i64 start, .int .i64 idle, .int .i64 spin, .int .i64 on] from ⟨hR.out.1.weak (by
                    rintro i' j' b' ⟨hv, h | ⟨rfl, h⟩⟩
                    · exact ⟨hv, Or.inl h⟩
                    · refine ⟨hv, Or.inr ⟨rfl, ?_⟩⟩
                      have := hv.2.2
                      omega), hR.out.2.1⟩)
                  have hws : IntKind.i64.wrap (s + 1) = s + 1 := IntWalk.i64_in _ (by omega)
                  clear hR
                  go_wp2
                  go_roundw
                  case rel => exact ⟨j + 1, s + 1, by have := HSJ.out; omega, by omega, by omega, rfl, HN4.out⟩
                  case measure => simp [intOf]; omega
            · have HN3 := Lib.hid (show L3 us hs (some ⟨bu, ou, none⟩) n c m w As ca (D3 us (i + 1)) wx from hR.out.1.weak (by
                rintro i' j' b' ⟨hv, h⟩
                by_cases hii : i' = i
                · subst hii
                  refine ⟨hv, Or.inr ⟨rfl, ?_⟩⟩
                  have hv2 := hv
                  unfold Vd at hv2
                  rw [HUE.out] at hv2
                  simp only at hv2
                  omega
                · exact ⟨hv, Or.inl (by omega)⟩))
              clear hR hsj
              go_wp2
              go_roundw
              case rel => exact ⟨i + 1, by omega, by go_num, HN3.out⟩
              case measure => simp [intOf]; omega
        · obtain rfl : n = i := by omega
          have HFIN := Lib.hid (show NsR us hs A n c m w (.returned (.pointer (some ⟨w.heap.size + 1, 0, none⟩))) wv by
            obtain ⟨f1, f2, f3, cs, f4, f5⟩ := hR.out
            refine ⟨w.heap.size + 1, As, ca, w.heap.size, rfl, ⟨⟨cs, f4, f5.all rfl hnl hn5 HK2.out fun i j b h1 h2 h3 h4 => ⟨⟨h2, h3, h4⟩, h1⟩⟩, HU.out.below f1, f3.at, HK2.out, hn5, hm8, ?_⟩, ⟨#[], 0, f2, by simp⟩, f1, by omega, Nat.le_refl _⟩
            intro j q x hx
            by_cases hj : j < hs.length
            · have e1 : (rowsOf us hs)[j]?.getD [] = rowOf us (hs[j]?.getD Hr0) := by simp [rowsOf, hj]
              rw [e1] at hx
              by_cases hq : q < 2 ^ us.length
              · have e2 : (rowOf us (hs[j]?.getD Hr0))[q]?.getD none = supH us (hs[j]?.getD Hr0) (bitsN us.length q) := by simp [rowOf, hq]
                rw [e2] at hx
                exact sup_bd HK1.out HK2.out (bitsN_len _ _) hx
              · have hlen : (rowOf us (hs[j]?.getD Hr0)).length = 2 ^ us.length := by simp [rowOf]
                rw [List.getElem?_eq_none (by omega)] at hx
                simp at hx
            · have hlen : (rowsOf us hs).length = hs.length := by simp [rowsOf]
              rw [List.getElem?_eq_none (l := rowsOf us hs) (by omega)] at hx
              simp at hx)
          clear hR
          go_wp2
          go_ret
          exact HFIN.out

end Go.Proofs.YtdoeejcmaeefcaaGreat
