/-
The reference of layer 26: the check of a unit, joined. The reference of layer 28: Check and Range. No statement of the seat is proved here; no conditions beyond those of each theorem.
-/
import Derived.Test.YtdoeejcmaeefcaaGreatJT4
import Derived.Test.YtdoeejcmaeefcaaGreatJT5
import Derived.Test.YtdoeejcmaeefcaaGreatJT6
import Derived.Test.YtdoeejcmaeefcaaGreatJT7
import Derived.Test.YtdoeejcmaeefcaaGreatHI
namespace Go.Proofs.YtdoeejcmaeefcaaGreat
set_option linter.unusedVariables false
set_option linter.unusedSimpArgs false
open Go.RowKit
open Wd

set_option maxHeartbeats 2000000 in
theorem rucheck_raw (bus mn up dn start idle spin on : Int) (A : Option Addr) (n c : Nat) (l : List (Int × Int)) (w : World) (h : StAt w A n l) :
    Calls Tryz.prog 50 #[.agg #[.int .i64 bus, .int .i64 mn, .slice A n c, .int .i64 up, .int .i64 dn, .int .i64 start, .int .i64 idle, .int .i64 spin, .int .i64 on], .int .i64 6] w fun e w' => e = .returned (.int .i64 (uchk ⟨bus, mn, l, up, dn, start, idle, spin, on⟩)) ∧ Below w.heap.size w w' := by
  by_cases h1 : bus < 0 ∨ 6 ≤ bus
  · have e : uchk ⟨bus, mn, l, up, dn, start, idle, spin, on⟩ = 1 := by unfold uchk; rw [if_pos h1]
    rw [e]
    have h2 : bus < 0 ∨ (¬ bus < 0 ∧ 6 ≤ bus) := by omega
    clear e h1
    rcases h2 with g1 | ⟨g1, g2⟩
    all_goals
      go_enter Tryz.func50, Tryz.ntmps50
      go_wp2
      go_ret
      exact ⟨rfl, (Below.refl _ _).alloc (Nat.le_refl _) _⟩
  · have g1 : ¬ bus < 0 := by omega
    have g2 : ¬ 6 ≤ bus := by omega
    by_cases h3 : chk true l = 0
    · have e3 : uchk ⟨bus, mn, l, up, dn, start, idle, spin, on⟩ = if mn < 0 ∨ qsum l < mn then 1 else if uRest up dn start idle spin on then 1 else 0 := by
        unfold uchk; rw [if_neg h1, if_neg (by intro hh; exact hh h3)]
      rw [e3]
      by_cases k1 : mn < 0
      · rw [if_pos (Or.inl k1)]
        exact rucheck_neg bus mn up dn start idle spin on A n c l w h g1 g2 h3 k1
      · by_cases k2 : qsum l < mn
        · rw [if_pos (Or.inr k2)]
          exact rucheck_more bus mn up dn start idle spin on (qsum l) A n c l w h g1 g2 h3 rfl k1 k2
        · rw [if_neg (by omega)]
          by_cases h6 : uRest up dn start idle spin on
          · rw [if_pos h6]
            rcases uRest_cases h6 with r0 | ⟨r0, r1⟩ | ⟨r0, r1, r2⟩ | ⟨r0, r1, r2, r3⟩ | ⟨r0, r1, r2, r3, r4⟩ | ⟨r0, r1, r2, r3, r4, r5⟩ | ⟨r0, r1, r2, r3, r4, r5, r6⟩ | ⟨r0, r1, r2, r3, r4, r5, r6, r7⟩ | ⟨r0, r1, r2, r3, r4, r5, r6, r7, r8⟩ | ⟨r0, r1, r2, r3, r4, r5, r6, r7, r8, r9⟩ | ⟨r0, r1, r2, r3, r4, r5, r6, r7, r8, r9, r10⟩ | ⟨r0, r1, r2, r3, r4, r5, r6, r7, r8, r9, r10, r11⟩ | ⟨r0, r1, r2, r3, r4, r5, r6, r7, r8, r9, r10, r11, r12⟩
            · exact rucheck_c0 bus mn up dn start idle spin on (qsum l) A n c l w h g1 g2 h3 rfl k1 k2 r0
            · exact rucheck_c1 bus mn up dn start idle spin on (qsum l) A n c l w h g1 g2 h3 rfl k1 k2 r0 r1
            · exact rucheck_c2 bus mn up dn start idle spin on (qsum l) A n c l w h g1 g2 h3 rfl k1 k2 r0 r1 r2
            · exact rucheck_c3 bus mn up dn start idle spin on (qsum l) A n c l w h g1 g2 h3 rfl k1 k2 r0 r1 r2 r3
            · exact rucheck_c4 bus mn up dn start idle spin on (qsum l) A n c l w h g1 g2 h3 rfl k1 k2 r0 r1 r2 r3 r4
            · exact rucheck_c5 bus mn up dn start idle spin on (qsum l) A n c l w h g1 g2 h3 rfl k1 k2 r0 r1 r2 r3 r4 r5
            · exact rucheck_c6 bus mn up dn start idle spin on (qsum l) A n c l w h g1 g2 h3 rfl k1 k2 r0 r1 r2 r3 r4 r5 r6
            · exact rucheck_c7 bus mn up dn start idle spin on (qsum l) A n c l w h g1 g2 h3 rfl k1 k2 r0 r1 r2 r3 r4 r5 r6 r7
            · exact rucheck_c8 bus mn up dn start idle spin on (qsum l) A n c l w h g1 g2 h3 rfl k1 k2 r0 r1 r2 r3 r4 r5 r6 r7 r8
            · exact rucheck_c9 bus mn up dn start idle spin on (qsum l) A n c l w h g1 g2 h3 rfl k1 k2 r0 r1 r2 r3 r4 r5 r6 r7 r8 r9
            · exact rucheck_c10 bus mn up dn start idle spin on (qsum l) A n c l w h g1 g2 h3 rfl k1 k2 r0 r1 r2 r3 r4 r5 r6 r7 r8 r9 r10
            · exact rucheck_c11 bus mn up dn start idle spin on (qsum l) A n c l w h g1 g2 h3 rfl k1 k2 r0 r1 r2 r3 r4 r5 r6 r7 r8 r9 r10 r11
            · exact rucheck_c12 bus mn up dn start idle spin on (qsum l) A n c l w h g1 g2 h3 rfl k1 k2 r0 r1 r2 r3 r4 r5 r6 r7 r8 r9 r10 r11 r12
          · rw [if_neg h6]
            obtain ⟨r0, r1, r2, r3, r4, r5, r6, r7, r8, r9, r10, r11, r12⟩ := uRest_none h6
            exact rucheck_c13 bus mn up dn start idle spin on (qsum l) A n c l w h g1 g2 h3 rfl k1 k2 r0 r1 r2 r3 r4 r5 r6 r7 r8 r9 r10 r11 r12
    · have e3 : uchk ⟨bus, mn, l, up, dn, start, idle, spin, on⟩ = chk true l := by
        unfold uchk; rw [if_neg h1, if_pos h3]
      rw [e3]
      have T := fun W hW => rcheck_up A n c l W hW
      generalize chk true l = x at *
      have hx : (x != 0) = true := by simpa using h3
      have HT := Lib.hid T
      clear h3 e3 h1 T
      go_enter Tryz.func50, Tryz.ntmps50
      go_wp2_with fail
      have hB0 := Blk.new w 39 #[.int .i64 bus, .int .i64 mn, .slice A n c, .int .i64 up, .int .i64 dn, .int .i64 start, .int .i64 idle, .int .i64 spin, .int .i64 on]
      have hBW : Below w.heap.size w (w.alloc (.cells #[.int .i64 bus, .int .i64 mn, .slice A n c, .int .i64 up, .int .i64 dn, .int .i64 start, .int .i64 idle, .int .i64 spin, .int .i64 on] 39)) := (Below.refl _ _).alloc (Nat.le_refl _) _
      have hsz : (w.alloc (.cells #[.int .i64 bus, .int .i64 mn, .slice A n c, .int .i64 up, .int .i64 dn, .int .i64 start, .int .i64 idle, .int .i64 spin, .int .i64 on] 39)).heap.size = w.heap.size + 1 := by simp
      generalize w.alloc (.cells #[.int .i64 bus, .int .i64 mn, .slice A n c, .int .i64 up, .int .i64 dn, .int .i64 start, .int .i64 idle, .int .i64 spin, .int .i64 on] 39) = W at *
      have HSZ := Lib.hid hsz
      clear hsz
      refine (HT.out W (h.below hBW)).mono ?_
      rintro e w1 ⟨rfl, hb1⟩
      have hb1 : Below w.heap.size w w1 := hBW.trans (hb1.mono hBW.size)
      go_wp2
      go_ret
      exact ⟨rfl, hb1⟩

end Go.Proofs.YtdoeejcmaeefcaaGreat

namespace Go.Proofs.YtdoeejcmaeefcaaGreat
set_option linter.unusedVariables false
set_option linter.unusedSimpArgs false
open Go.RowKit
open Wd

set_option maxRecDepth 100000 in
set_option maxHeartbeats 4000000 in
theorem recheck_any (A B : Option Addr) (n c m d : Nat) (us : List Un) (w : World) (h : UsAt w A n us) :
    Calls Tryz.prog 72 #[.slice A n c, .slice B m d] w fun e w' => e = .returned (.int .i64 (echk us m)) ∧ Below w.heap.size w w' := by
  by_cases h5 : 5 < n
  · have e : echk us m = 5 := by unfold echk; rw [if_pos (by rw [h.1]; exact h5)]
    have d5 : decide ((5 : Int) < (n : Int)) = true := by simp; omega
    rw [e]
    clear h e
    go_enter Tryz.func72, Tryz.ntmps72
    go_wp2
    go_ret
    exact ⟨rfl, Below.refl _ _⟩
  · have e : echk us m = if ecFrom us ≠ 0 then ecFrom us else if m ≠ n then 3 else 0 := by unfold echk; rw [if_neg (by rw [h.1]; exact h5), h.1]
    have d5 : decide ((5 : Int) < (n : Int)) = false := by simp; omega
    have HE := Lib.hid e
    obtain ⟨hl, hc⟩ := h
    have HL := Lib.hid hl
    have HC := Lib.hid hc
    clear e hl hc
    go_enter Tryz.func72, Tryz.ntmps72
    go_wp2_with fail
    go_loopw [5] (fun t wr => ∃ k : Nat, k ≤ n ∧ t = .int .i64 k ∧ Hid (ecFrom us = ecFrom (us.drop k)) ∧ Hid (Below w.heap.size w wr)) (fun t _ => n - (intOf t).toNat)
    case atStart => exact ⟨0, Nat.zero_le _, rfl, rfl, Below.refl _ _⟩
    case round =>
      obtain ⟨k, hk, rfl, hR, hB⟩ := hrel
      by_cases hlt : k < n
      · obtain ⟨b, o, rfl, hb, hcell⟩ := HC.out (by omega)
        have hu := (hcell k hlt).below hb hB.out
        have hdr := dropU (l := us) (k := k) (by rw [HL.out]; exact hlt)
        have hki1 : (0 : Int) ≤ (k : Int) := by omega
        have hki2 : (k : Int) < (n : Int) := by omega
        generalize us[k]?.getD U0 = u at *
        obtain ⟨bus, mn, st, up, dn, start, idle, spin, on⟩ := u
        obtain ⟨A', n', c', ⟨h0, h1, h2, h3, h4, h5', h6, h7, h8⟩, hs, hn'⟩ := hu
        simp only at h0 h1 h2 h3 h4 h5' h6 h7 h8 hs
        have HDR := Lib.hid hdr
        clear hdr hcell
        have T := rucheck_raw bus mn up dn start idle spin on A' n' c' st wr hs
        by_cases hz : uchk ⟨bus, mn, st, up, dn, start, idle, spin, on⟩ = 0
        · have hnew : ecFrom us = ecFrom (us.drop (k + 1)) := by rw [hR.out, HDR.out]; exact ecFrom_ok hz
          rw [hz] at T
          have HT := Lib.hid T
          have HN := Lib.hid hnew
          clear hz hnew T
          go_wp2_with fail
          refine HT.out.mono ?_
          rintro e w2 ⟨rfl, hb2⟩
          have HB3 := Lib.hid (hB.out.trans (hb2.mono hB.out.size))
          clear hb2 h0 h1 h2 h3 h4 h5' h6 h7 h8 HT
          go_wp2
          go_roundw
          case rel => exact ⟨k + 1, by omega, by go_num, HN.out, HB3.out⟩
          case measure => simp [intOf]; omega
        · have hx : ecFrom us = uchk ⟨bus, mn, st, up, dn, start, idle, spin, on⟩ := by rw [hR.out, HDR.out]; exact ecFrom_bad hz
          have hfin : echk us m = uchk ⟨bus, mn, st, up, dn, start, idle, spin, on⟩ := by rw [HE.out, if_pos (by rw [hx]; exact hz), hx]
          generalize uchk ⟨bus, mn, st, up, dn, start, idle, spin, on⟩ = x at *
          have hxz : (x != 0) = true := by simpa using hz
          have HT := Lib.hid T
          have HF := Lib.hid hfin
          clear hz hx hfin T
          go_wp2_with fail
          refine HT.out.mono ?_
          rintro e w2 ⟨rfl, hb2⟩
          have HB3 := Lib.hid (hB.out.trans (hb2.mono hB.out.size))
          clear hb2 h0 h1 h2 h3 h4 h5' h6 h7 h8 HT
          go_wp2
          go_ret
          rw [HF.out]
          exact ⟨rfl, HB3.out⟩
      · obtain rfl : k = n := by omega
        have hz : ecFrom us = 0 := by rw [hR.out, List.drop_of_length_le (by rw [HL.out]; exact Nat.le_refl _)]; rfl
        have hfin : echk us m = if m ≠ k then (3 : Int) else 0 := by rw [HE.out, if_neg (by rw [hz]; simp)]
        have HF := Lib.hid hfin
        clear hz hfin
        by_cases hmk : m = k
        · have hne : ((m : Int) != (k : Int)) = false := by simp; omega
          go_wp2
          go_ret
          rw [HF.out, if_neg (by omega)]
          exact ⟨rfl, hB.out⟩
        · have hne : ((m : Int) != (k : Int)) = true := by simp; omega
          go_wp2
          go_ret
          rw [HF.out, if_pos hmk]
          exact ⟨rfl, hB.out⟩

set_option maxRecDepth 100000 in
set_option maxHeartbeats 4000000 in
theorem rerange_ok (A B : Option Addr) (n c m d : Nat) (us : List Un) (bs : List Bool) (w : World) (h : UsAt w A n us) (h' : BsAt w B m bs) (he : echk us m = 0) :
    Calls Tryz.prog 56 #[.slice A n c, .slice B m d] w fun e w' => e = .returned (.tuple #[.int .i64 (rmin (us.zip bs)), .int .i64 (rmax (us.zip bs)), .int .i64 0]) ∧ Below w.heap.size w w' := by
  have T := recheck_any A B n c m d us w h
  rw [he] at T
  obtain ⟨hn5, hmn, hok⟩ := echk_ok he
  have HT := Lib.hid T
  obtain ⟨hl, hc⟩ := h
  obtain ⟨hl', hc'⟩ := h'
  have hnm : m = n := by omega
  subst hnm
  have hzl : (us.zip bs).length = m := by rw [List.length_zip]; omega
  have hokz : ∀ z ∈ us.zip bs, uchk z.1 = 0 := fun z hz => hok z.1 (List.of_mem_zip hz).1
  have HL := Lib.hid hl
  have HL' := Lib.hid hl'
  have HC := Lib.hid hc
  have HC' := Lib.hid hc'
  have HZL := Lib.hid hzl
  have HOK := Lib.hid hokz
  have hn : m ≤ 5 := by omega
  clear he hn5 hmn hok hl hl' hc hc' hzl hokz T
  go_enter Tryz.func56, Tryz.ntmps56
  go_wp2_with fail
  refine HT.out.mono ?_
  rintro e w1 ⟨rfl, hb1⟩
  have HB1 := Lib.hid hb1
  clear hb1 HT
  go_wp2_with fail
  go_loopw [8, 9, 10] (fun t4 t5 t wr => ∃ k : Nat, k ≤ m ∧ t = .int .i64 k ∧ t4 = .int .i64 (rmin ((us.zip bs).take k)) ∧ t5 = .int .i64 (rmax ((us.zip bs).take k)) ∧ Hid (Below w.heap.size w wr)) (fun _ _ t _ => m - (intOf t).toNat)
  case atStart => exact ⟨0, Nat.zero_le _, rfl, rfl, rfl, HB1.out⟩
  case round =>
    obtain ⟨k, hk, rfl, rfl, rfl, hB⟩ := hrel
    by_cases hlt : k < m
    · obtain ⟨b, o, rfl, hb, hcell⟩ := HC.out (by omega)
      obtain ⟨b', o', rfl, hb', hcell'⟩ := HC'.out (by omega)
      have hu := (hcell k hlt).below hb hB.out
      have hon := (hB.out.cell (p := ⟨b', o' + k, none⟩) hb').trans (hcell' k hlt)
      have htz := takeZ (us := us) (bs := bs) (k := k) (by rw [HL.out]; exact hlt) (by rw [HL'.out]; exact hlt)
      have s1 := rmin_snoc ((us.zip bs).take k) (us[k]?.getD U0, bs[k]?.getD false)
      have s2 := rmax_snoc ((us.zip bs).take k) (us[k]?.getD U0, bs[k]?.getD false)
      rw [← htz] at s1 s2
      have bd1 := range_bd ((us.zip bs).take k) (fun z hz => HOK.out z (List.mem_of_mem_take hz))
      have bd2 := range_bd ((us.zip bs).take (k + 1)) (fun z hz => HOK.out z (List.mem_of_mem_take hz))
      have l1 : ((us.zip bs).take k).length ≤ 5 := by have := List.length_take_le k (us.zip bs); omega
      have l2 : ((us.zip bs).take (k + 1)).length ≤ 5 := by have := List.length_take_le (k + 1) (us.zip bs); omega
      generalize bs[k]?.getD false = bk at *
      generalize us[k]?.getD U0 = u at *
      simp only at s1 s2
      obtain ⟨bus, mn, st, up, dn, start, idle, spin, on⟩ := u
      obtain ⟨A', n', c', ⟨h0, h1, h2, h3, h4, h5', h6, h7, h8⟩, hs, hn'⟩ := hu
      simp only at h0 h1 h2 h3 h4 h5' h6 h7 h8 hs s1
      have hbr : b < wr.heap.size := Nat.lt_of_lt_of_le hb hB.out.size
      have T := fun W hW => rumax_raw bus mn up dn start idle spin on A' n' c' st W hW
      generalize rmin ((us.zip bs).take k) = r1 at *
      generalize rmax ((us.zip bs).take k) = r2 at *
      generalize umax ⟨bus, mn, st, up, dn, start, idle, spin, on⟩ = um at *
      have S1 := Lib.hid s1
      have S2 := Lib.hid s2
      have HTX := Lib.hid T
      have q1 : 0 ≤ r1 := by omega
      have q2 : r1 ≤ 15000000 := by omega
      have q3 : 0 ≤ r2 := by omega
      have q4 : r2 ≤ 15000000 := by omega
      have hki1 : (0 : Int) ≤ (k : Int) := by omega
      have hki2 : (k : Int) < (m : Int) := by omega
      cases bk
      · simp at s1 s2
        clear s1 s2 bd1 bd2 l1 l2 htz hcell hcell' T
        go_wp2
        go_roundw
        case rel => exact ⟨k + 1, by omega, by go_num, by rw [S1.out]; simp, by rw [S2.out]; simp, hB.out⟩
        case measure => simp [intOf]; omega
      · simp at s1 s2
        have q5 : -15000000 ≤ mn := by omega
        have q6 : mn ≤ 15000000 := by omega
        have q7 : -15000000 ≤ um := by omega
        have q8 : um ≤ 15000000 := by omega
        have x1 : IntKind.i64.wrap (r1 + mn) = r1 + mn := IntWalk.i64_in _ (by omega)
        have x2 : IntKind.i64.wrap (r2 + um) = r2 + um := IntWalk.i64_in _ (by omega)
        have HSS := Lib.hid hs
        have hS : ∀ w', Kp wr w' → (w'.cell? ⟨b, o + k * 9, none⟩ = some (.int .i64 bus) ∧ w'.cell? ⟨b, o + k * 9 + 1, none⟩ = some (.int .i64 mn) ∧ w'.cell? ⟨b, o + k * 9 + 2, none⟩ = some (.slice A' n' c') ∧ w'.cell? ⟨b, o + k * 9 + 3, none⟩ = some (.int .i64 up) ∧ w'.cell? ⟨b, o + k * 9 + 4, none⟩ = some (.int .i64 dn) ∧ w'.cell? ⟨b, o + k * 9 + 5, none⟩ = some (.int .i64 start) ∧ w'.cell? ⟨b, o + k * 9 + 6, none⟩ = some (.int .i64 idle) ∧ w'.cell? ⟨b, o + k * 9 + 7, none⟩ = some (.int .i64 spin) ∧ w'.cell? ⟨b, o + k * 9 + 8, none⟩ = some (.int .i64 on)) ∧ Kp wr w' := fun w' hk => ⟨⟨(Below.cell hk (p := ⟨b, o + k * 9, none⟩) hbr).trans h0, (Below.cell hk (p := ⟨b, o + k * 9 + 1, none⟩) hbr).trans h1, (Below.cell hk (p := ⟨b, o + k * 9 + 2, none⟩) hbr).trans h2, (Below.cell hk (p := ⟨b, o + k * 9 + 3, none⟩) hbr).trans h3, (Below.cell hk (p := ⟨b, o + k * 9 + 4, none⟩) hbr).trans h4, (Below.cell hk (p := ⟨b, o + k * 9 + 5, none⟩) hbr).trans h5', (Below.cell hk (p := ⟨b, o + k * 9 + 6, none⟩) hbr).trans h6, (Below.cell hk (p := ⟨b, o + k * 9 + 7, none⟩) hbr).trans h7, (Below.cell hk (p := ⟨b, o + k * 9 + 8, none⟩) hbr).trans h8⟩, hk⟩
        have HS := Lib.hid hS
        have s5 := Kp.refl wr
        clear s1 s2 bd1 bd2 l1 l2 htz hcell hcell' T hs hS
        go_wp2_with fail
        clear h0 h1 h2 h3 h4 h5' h6 h7 h8 hon
        go_region_held3 (fun w' => (w'.cell? ⟨b, o + k * 9, none⟩ = some (.int .i64 bus) ∧ w'.cell? ⟨b, o + k * 9 + 1, none⟩ = some (.int .i64 mn) ∧ w'.cell? ⟨b, o + k * 9 + 2, none⟩ = some (.slice A' n' c') ∧ w'.cell? ⟨b, o + k * 9 + 3, none⟩ = some (.int .i64 up) ∧ w'.cell? ⟨b, o + k * 9 + 4, none⟩ = some (.int .i64 dn) ∧ w'.cell? ⟨b, o + k * 9 + 5, none⟩ = some (.int .i64 start) ∧ w'.cell? ⟨b, o + k * 9 + 6, none⟩ = some (.int .i64 idle) ∧ w'.cell? ⟨b, o + k * 9 + 7, none⟩ = some (.int .i64 spin) ∧ w'.cell? ⟨b, o + k * 9 + 8, none⟩ = some (.int .i64 on)) ∧ Kp wr w')
          (first | (with_reducible refine HS.out _ ?_; with_reducible assumption) | (with_reducible refine HS.out _ (Kp.drew ?_); with_reducible assumption) | (with_reducible refine' HS.out _ (Kp.drew (And.right ?_)); rotate_left; with_reducible assumption))
          (first
            | (go_at_call 68; have hk := And.right ‹_ ∧ Kp wr _›; refine (HTX.out _ (HSS.out.below hk)).mono ?_; rintro e v5 ⟨rfl, hb3⟩; have hp5 := Kp.trans hk hb3; clear hk hb3))
        rename_i hHeld
        clear hHeld
        have HB5 := Lib.hid (hB.out.trans (Below.mono hp5 hB.out.size))
        clear hp5 HS HTX HSS x1 x2
        go_wp2
        go_roundw
        case rel => exact ⟨k + 1, by omega, by go_num, by rw [S1.out]; simp, by rw [S2.out]; simp, HB5.out⟩
        case measure => simp [intOf]; omega
    · obtain rfl : k = m := by omega
      have e : (us.zip bs).take k = us.zip bs := List.take_of_length_le (by rw [HZL.out]; exact Nat.le_refl _)
      rw [e]
      go_wp2
      go_ret3
      exact ⟨rfl, hB.out⟩

set_option maxHeartbeats 1000000 in
theorem rerange_no (A B : Option Addr) (n c m d : Nat) (us : List Un) (w : World) (h : UsAt w A n us) (he : echk us m ≠ 0) :
    Calls Tryz.prog 56 #[.slice A n c, .slice B m d] w fun e w' => e = .returned (.tuple #[.int .i64 0, .int .i64 0, .int .i64 (echk us m)]) ∧ Below w.heap.size w w' := by
  have T := recheck_any A B n c m d us w h
  clear h
  generalize echk us m = x at *
  have hx : (x != 0) = true := by simpa using he
  have HT := Lib.hid T
  clear he T
  go_enter Tryz.func56, Tryz.ntmps56
  go_wp2_with fail
  refine HT.out.mono ?_
  rintro e w1 ⟨rfl, hb1⟩
  go_wp2
  go_ret3
  exact ⟨rfl, hb1⟩

end Go.Proofs.YtdoeejcmaeefcaaGreat
