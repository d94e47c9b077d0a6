/-
The reference of layer 26: the check of a unit, joined. The reference of layer 28: Check and Range. The reference of layer 30: Room. No statement of the seat is proved here; no conditions beyond those of each theorem.
-/
import Derived.Test.YtodkhjihkkmplaaGreatLT4
import Derived.Test.YtodkhjihkkmplaaGreatLPO
import Derived.Test.YtodkhjihkkmplaaGreatLQD
import Derived.Test.YtodkhjihkkmplaaGreatLRc2
import Derived.Test.YtodkhjihkkmplaaGreatLT1
import Derived.Test.YtodkhjihkkmplaaGreatLQA
namespace Go.Proofs.YtodkhjihkkmplaaGreat
set_option linter.unusedVariables false
set_option linter.unusedSimpArgs false
open Go.RowKit
open Wd

set_option maxHeartbeats 2000000 in
theorem rucheck_raw (bus mn up dn start idle spin on : Int) (A : Option Addr) (n c : Nat) (l : List (Int × Int)) (w : World) (h : StAt w A n l) :
  Calls Tryz.prog 93 #[.agg #[.int .i64 bus, .int .i64 mn, .slice A n c, .int .i64 up, .int .i64 dn, .int .i64 start, .int .i64 idle, .int .i64 spin, .int .i64 on], .int .i64 6] w fun e w' => e = .returned (.int .i64 (uchk ⟨bus, mn, l, up, dn, start, idle, spin, on⟩)) ∧ Below w.heap.size w w' := by
 by_cases h1 : bus < 0 ∨ 6 ≤ bus
 ·have e : uchk ⟨bus, mn, l, up, dn, start, idle, spin, on⟩ = 1 := by unfold uchk; rw [if_pos h1]
  rw [e]
  have h2 : bus < 0 ∨ (¬ bus < 0 ∧ 6 ≤ bus) := by omega
  clear e h1
  rcases h2 with g1 | ⟨g1, g2⟩
  all_goals
   go_enter Tryz.func93, Tryz.ntmps93
   go_wp2
   go_ret
   exact ⟨rfl, (Below.refl _ _).alloc (Nat.le_refl _) _⟩
 ·have g1 : ¬ bus < 0 := by omega
  have g2 : ¬ 6 ≤ bus := by omega
  by_cases h3 : chk true l = 0
  ·have e3 : uchk ⟨bus, mn, l, up, dn, start, idle, spin, on⟩ = if mn < 0 ∨ qsum l < mn then 1 else if uRest up dn start idle spin on then 1 else 0 := by
    unfold uchk; rw [if_neg h1, if_neg (by intro hh; exact hh h3)]
   rw [e3]
   by_cases k1 : mn < 0
   ·rw [if_pos (Or.inl k1)]
    exact rucheck_neg bus mn up dn start idle spin on A n c l w h g1 g2 h3 k1
   ·by_cases k2 : qsum l < mn
    ·rw [if_pos (Or.inr k2)]
     exact rucheck_more bus mn up dn start idle spin on (qsum l) A n c l w h g1 g2 h3 rfl k1 k2
    ·rw [if_neg (by omega)]
     by_cases h6 : uRest up dn start idle spin on
     ·rw [if_pos h6]
      rcases uRest_cases h6 with r0 | ⟨r0, r1⟩ | ⟨r0, r1, r2⟩ | ⟨r0, r1, r2, r3⟩ | ⟨r0, r1, r2, r3, r4⟩ | ⟨r0, r1, r2, r3, r4, r5⟩ | ⟨r0, r1, r2, r3, r4, r5, r6⟩ | ⟨r0, r1, r2, r3, r4, r5, r6, r7⟩ | ⟨r0, r1, r2, r3, r4, r5, r6, r7, r8⟩ | ⟨r0, r1, r2, r3, r4, r5, r6, r7, r8, r9⟩ | ⟨r0, r1, r2, r3, r4, r5, r6, r7, r8, r9, r10⟩ | ⟨r0, r1, r2, r3, r4, r5, r6, r7, r8, r9, r10, r11⟩ | ⟨r0, r1, r2, r3, r4, r5, r6, r7, r8, r9, r10, r11, r12⟩
      ·exact rucheck_c0 bus mn up dn start idle spin on (qsum l) A n c l w h g1 g2 h3 rfl k1 k2 r0
      ·exact rucheck_c1 bus mn up dn start idle spin on (qsum l) A n c l w h g1 g2 h3 rfl k1 k2 r0 r1
      ·exact rucheck_c2 bus mn up dn start idle spin on (qsum l) A n c l w h g1 g2 h3 rfl k1 k2 r0 r1 r2
      ·exact rucheck_c3 bus mn up dn start idle spin on (qsum l) A n c l w h g1 g2 h3 rfl k1 k2 r0 r1 r2 r3
      ·exact rucheck_c4 bus mn up dn start idle spin on (qsum l) A n c l w h g1 g2 h3 rfl k1 k2 r0 r1 r2 r3 r4
      ·exact rucheck_c5 bus mn up dn start idle spin on (qsum l) A n c l w h g1 g2 h3 rfl k1 k2 r0 r1 r2 r3 r4 r5
      ·exact rucheck_c6 bus mn up dn start idle spin on (qsum l) A n c l w h g1 g2 h3 rfl k1 k2 r0 r1 r2 r3 r4 r5 r6
      ·exact rucheck_c7 bus mn up dn start idle spin on (qsum l) A n c l w h g1 g2 h3 rfl k1 k2 r0 r1 r2 r3 r4 r5 r6 r7
      ·exact rucheck_c8 bus mn up dn start idle spin on (qsum l) A n c l w h g1 g2 h3 rfl k1 k2 r0 r1 r2 r3 r4 r5 r6 r7 r8
      ·exact rucheck_c9 bus mn up dn start idle spin on (qsum l) A n c l w h g1 g2 h3 rfl k1 k2 r0 r1 r2 r3 r4 r5 r6 r7 r8 r9
      ·exact rucheck_c10 bus mn up dn start idle spin on (qsum l) A n c l w h g1 g2 h3 rfl k1 k2 r0 r1 r2 r3 r4 r5 r6 r7 r8 r9 r10
      ·exact rucheck_c11 bus mn up dn start idle spin on (qsum l) A n c l w h g1 g2 h3 rfl k1 k2 r0 r1 r2 r3 r4 r5 r6 r7 r8 r9 r10 r11
      ·exact rucheck_c12 bus mn up dn start idle spin on (qsum l) A n c l w h g1 g2 h3 rfl k1 k2 r0 r1 r2 r3 r4 r5 r6 r7 r8 r9 r10 r11 r12
     ·rw [if_neg h6]
      obtain ⟨r0, r1, r2, r3, r4, r5, r6, r7, r8, r9, r10, r11, r12⟩ := uRest_none h6
      exact rucheck_c13 bus mn up dn start idle spin on (qsum l) A n c l w h g1 g2 h3 rfl k1 k2 r0 r1 r2 r3 r4 r5 r6 r7 r8 r9 r10 r11 r12
  ·have e3 : uchk ⟨bus, mn, l, up, dn, start, idle, spin, on⟩ = chk true l := by
    unfold uchk; rw [if_neg h1, if_pos h3]
   rw [e3]
   have T := fun W hW => rcheck_up A n c l W hW
   generalize chk true l = x at *
   have hx : (x != 0) = true := by simpa using h3
   have HT := Lib.hid T
   clear h3 e3 h1 T
   go_enter Tryz.func93, Tryz.ntmps93
   go_wp2_with fail
   obtain ⟨hB0, hBW, hsz⟩ := pre1 w 48 #[.int .i64 bus, .int .i64 mn, .slice A n c, .int .i64 up, .int .i64 dn, .int .i64 start, .int .i64 idle, .int .i64 spin, .int .i64 on]
   generalize w.alloc (.cells #[.int .i64 bus, .int .i64 mn, .slice A n c, .int .i64 up, .int .i64 dn, .int .i64 start, .int .i64 idle, .int .i64 spin, .int .i64 on] 48) = W at *
   have HSZ := Lib.hid hsz
   clear hsz
   refine (HT.out W (h.below hBW)).mono ?_
   rintro e w1 ⟨rfl, hb1⟩
   have hb1 : Below w.heap.size w w1 := hBW.trans (hb1.mono hBW.size)
   go_wp2
   go_ret
   exact ⟨rfl, hb1⟩

end Go.Proofs.YtodkhjihkkmplaaGreat

namespace Go.Proofs.YtodkhjihkkmplaaGreat
set_option linter.unusedVariables false
set_option linter.unusedSimpArgs false
open Go.RowKit
open Wd

set_option maxRecDepth 100000 in
set_option maxHeartbeats 4000000 in
theorem recheck_any (A B : Option Addr) (n c m d : Nat) (us : List Un) (w : World) (h : UsAt w A n us) :
  Calls Tryz.prog 62 #[.slice A n c, .slice B m d] w fun e w' => e = .returned (.int .i64 (echk us m)) ∧ Below w.heap.size w w' := by
 by_cases h5 : 5 < n
 ·have e : echk us m = 5 := by unfold echk; rw [if_pos (by rw [h.1]; exact h5)]
  have d5 : decide ((5 : Int) < (n : Int)) = true := by simp; omega
  rw [e]
  clear h e
  go_enter Tryz.func62, Tryz.ntmps62
  go_wp2
  go_ret
  exact ⟨rfl, Below.refl _ _⟩
 ·have e : echk us m = if ecFrom us ≠ 0 then ecFrom us else if m ≠ n then 3 else 0 := by unfold echk; rw [if_neg (by rw [h.1]; exact h5), h.1]
  have d5 : decide ((5 : Int) < (n : Int)) = false := by simp; omega
  have HE := Lib.hid e
  obtain ⟨hl, hc⟩ := h
  have HL := Lib.hid hl
  have HC := Lib.hid hc
  clear e hl hc
  go_enter Tryz.func62, Tryz.ntmps62
  go_wp2_with fail
  go_loopw [5] (fun t wr => ∃ k : Nat, k ≤ n ∧ t = .int .i64 k ∧ Hid (ecFrom us = ecFrom (us.drop k)) ∧ Hid (Below w.heap.size w wr)) (fun t _ => n - (intOf t).toNat)
  case atStart => exact ⟨0, Nat.zero_le _, rfl, rfl, Below.refl _ _⟩
  case round =>
   obtain ⟨k, hk, rfl, hR, hB⟩ := hrel
   by_cases hlt : k < n
   ·obtain ⟨b, o, rfl, hb, hcell⟩ := HC.out (by omega)
    have hu := (hcell k hlt).below hb hB.out
    have hdr := dropU (l := us) (k := k) (by rw [HL.out]; exact hlt)
    have hki1 : (0 : Int) ≤ (k : Int) := by omega
    have hki2 : (k : Int) < (n : Int) := by omega
    generalize us[k]?.getD U0 = u at *
    obtain ⟨bus, mn, st, up, dn, start, idle, spin, on⟩ := u
    obtain ⟨A', n', c', ⟨h0, h1, h2, h3, h4, h5', h6, h7, h8⟩, hs, hn'⟩ := hu
    simp only at h0 h1 h2 h3 h4 h5' h6 h7 h8 hs
    have HDR := Lib.hid hdr
    clear hdr hcell
    have T := rucheck_raw bus mn up dn start idle spin on A' n' c' st wr hs
    by_cases hz : uchk ⟨bus, mn, st, up, dn, start, idle, spin, on⟩ = 0
    ·have hnew : ecFrom us = ecFrom (us.drop (k + 1)) := by rw [hR.out, HDR.out]; exact ecFrom_ok hz
     rw [hz] at T
     have HT := Lib.hid T
     have HN := Lib.hid hnew
     clear hz hnew T
     go_wp2_with fail
     refine HT.out.mono ?_
     rintro e w2 ⟨rfl, hb2⟩
     have HB3 := Lib.hid (hB.out.trans (hb2.mono hB.out.size))
     clear hb2 h0 h1 h2 h3 h4 h5' h6 h7 h8 HT
     go_wp2
     go_roundw
     case rel => exact ⟨k + 1, by omega, by go_num, HN.out, HB3.out⟩
     case measure => simp [intOf]; omega
    ·have hx : ecFrom us = uchk ⟨bus, mn, st, up, dn, start, idle, spin, on⟩ := by rw [hR.out, HDR.out]; exact ecFrom_bad hz
     have hfin : echk us m = uchk ⟨bus, mn, st, up, dn, start, idle, spin, on⟩ := by rw [HE.out, if_pos (by rw [hx]; exact hz), hx]
     generalize uchk ⟨bus, mn, st, up, dn, start, idle, spin, on⟩ = x at *
     have hxz : (x != 0) = true := by simpa using hz
     have HT := Lib.hid T
     have HF := Lib.hid hfin
     clear hz hx hfin T
     go_wp2_with fail
     refine HT.out.mono ?_
     rintro e w2 ⟨rfl, hb2⟩
     have HB3 := Lib.hid (hB.out.trans (hb2.mono hB.out.size))
     clear hb2 h0 h1 h2 h3 h4 h5' h6 h7 h8 HT
     go_wp2
     go_ret
     rw [HF.out]
     exact ⟨rfl, HB3.out⟩
   ·obtain rfl : k = n := by omega
    have hz : ecFrom us = 0 := by rw [hR.out, List.drop_of_length_le (by rw [HL.out]; exact Nat.le_refl _)]; rfl
    have hfin : echk us m = if m ≠ k then (3 : Int) else 0 := by rw [HE.out, if_neg (by rw [hz]; simp)]
    have HF := Lib.hid hfin
    clear hz hfin
    by_cases hmk : m = k
    ·have hne : ((m : Int) != (k : Int)) = false := by simp; omega
     go_wp2
     go_ret
     rw [HF.out, if_neg (by omega)]
     exact ⟨rfl, hB.out⟩
    ·have hne : ((m : Int) != (k : Int)) = true := by simp; omega
     go_wp2
     go_ret
     rw [HF.out, if_pos hmk]
     exact ⟨rfl, hB.out⟩


end Go.Proofs.YtodkhjihkkmplaaGreat
namespace Go.Proofs.YtodkhjihkkmplaaGreat
set_option linter.unusedVariables false
set_option linter.unusedSimpArgs false
open Go.RowKit
open Wd
set_option maxRecDepth 100000 in
set_option maxHeartbeats 2000000 in
theorem rroom30_any (K : Nat) (hK : K ≤ 16) (b : Bool) (bus mn up dn start idle spin on : Int) (A' aA aA' : Option Addr) (n' c' ak ac ak' ac' : Nat) (an an' : Bool) (st : List (Int × Int)) (q : Rat) (w : World) (hs : StAt w A' n' st) (hn' : n' ≤ 1000000000000) (hq : QK K w an aA ak ac an' aA' ak' ac' q)
  (hu0 : 0 ≤ umax ⟨bus, mn, st, up, dn, start, idle, spin, on⟩) (hu1 : umax ⟨bus, mn, st, up, dn, start, idle, spin, on⟩ ≤ 3000000) :
  Calls Tryz.prog 38 #[.agg #[.int .i64 bus, .int .i64 mn, .slice A' n' c', .int .i64 up, .int .i64 dn, .int .i64 start, .int .i64 idle, .int .i64 spin, .int .i64 on], .bool b, .agg #[.bool an, .slice aA ak ac, .bool an', .slice aA' ak' ac']] w (RetQ w (roomV b ⟨bus, mn, st, up, dn, start, idle, spin, on⟩ q)) := by
 have T := Lib.hid (fun W hW => rumax_raw bus mn up dn start idle spin on A' n' c' st W hW)
 unfold roomV
 generalize umax ⟨bus, mn, st, up, dn, start, idle, spin, on⟩ = um at *
 cases b
 ·simp only [Bool.false_eq_true, if_false]
  have FI := Lib.hid (fun W => rint_any 0 W (by omega) (by omega))
  generalize ((0 : Int) : Rat) = y at *
  clear hq hs T
  go_enter Tryz.func38, Tryz.ntmps38
  go_wp2_with fail
  obtain ⟨hB0, hB1, hB2, hBW, hsz⟩ := pre3 w 48 #[.int .i64 bus, .int .i64 mn, .slice A' n' c', .int .i64 up, .int .i64 dn, .int .i64 start, .int .i64 idle, .int .i64 spin, .int .i64 on] 31 #[.bool an, .slice aA ak ac, .bool an', .slice aA' ak' ac'] 31 #[.bool false, .slice none 0 0, .bool false, .slice none 0 0]
  generalize ((w.alloc (.cells #[.int .i64 bus, .int .i64 mn, .slice A' n' c', .int .i64 up, .int .i64 dn, .int .i64 start, .int .i64 idle, .int .i64 spin, .int .i64 on] 48)).alloc (.cells #[.bool an, .slice aA ak ac, .bool an', .slice aA' ak' ac'] 31)).alloc (.cells #[.bool false, .slice none 0 0, .bool false, .slice none 0 0] 31) = W at *
  have HSZ := Lib.hid hsz
  clear hsz
  have hr := RS4.start hB2
  have hl9 := RS4.lt hr
  refine (FI.out _).mono ?_
  rintro e v9 ⟨A9, k9, c9, A10, k10, c10, rfl, hk9, hk10, hW9, hW10, hF9, hF10, hb9⟩
  have hr9 := hr.call hb9
  obtain ⟨_, _, _, _, f0, f1, f2, f3, f4, f5, f6, f7⟩ := hr9.four
  clear hr hB0 hB1 hB2
  have hfin := retQ_close hBW (by omega) (by have := HSZ.out; have h9 := hl9; omega) hr9 hk9 hk10 hW9 hW10 hF9 hF10
  obtain ⟨d0, d1, d2, d3, -, -, -, -⟩ := (hr9.done (.bool (decide ((y).num < 0))) (.slice A9 k9 c9) (.bool false) (.slice A10 k10 c10)).four
  have HF := Lib.hid hfin
  clear hfin hl9 hr9 FI
  go_wp2
  refine bodyPost_ret (v := .agg #[.bool (decide ((y).num < 0)), .slice A9 k9 c9, .bool false, .slice A10 k10 c10]) ?_ rfl HF.out
  simp [results, Tryz.results38, go_sem, d0, d1, d2, d3]
 ·simp only [if_true]
  have FI := Lib.hid (fun W => rint_any um W (by omega) (by omega))
  go_enter Tryz.func38, Tryz.ntmps38
  go_wp2_with fail
  obtain ⟨hB0, hB1, hB2, hBW, hsz⟩ := pre3 w 48 #[.int .i64 bus, .int .i64 mn, .slice A' n' c', .int .i64 up, .int .i64 dn, .int .i64 start, .int .i64 idle, .int .i64 spin, .int .i64 on] 31 #[.bool an, .slice aA ak ac, .bool an', .slice aA' ak' ac'] 31 #[.bool false, .slice none 0 0, .bool false, .slice none 0 0]
  generalize ((w.alloc (.cells #[.int .i64 bus, .int .i64 mn, .slice A' n' c', .int .i64 up, .int .i64 dn, .int .i64 start, .int .i64 idle, .int .i64 spin, .int .i64 on] 48)).alloc (.cells #[.bool an, .slice aA ak ac, .bool an', .slice aA' ak' ac'] 31)).alloc (.cells #[.bool false, .slice none 0 0, .bool false, .slice none 0 0] 31) = W at *
  have HSZ := Lib.hid hsz
  clear hsz
  have HS0 := Lib.hid (fun W' (hW : Below (w.heap.size + 1 + 1) W W') => hs.below (hBW.trans (hW.mono (by omega))))
  have HSUB := Lib.hid (fun W' (hW : Below (w.heap.size + 1 + 1) W W') (B B' : Option Addr) (k d k' d' : Nat) (h1 : k ≤ d) (h2 : k' ≤ d') (h3 : Wat W' B k (digs ((um : Int) : Rat).num.natAbs)) (h4 : Wat W' B' k' (denW ((um : Int) : Rat).den)) => rsubq_s (Nat.le_trans (three16 hK) (by decide)) _ _ _ _ _ _ _ _ _ _ _ _ _ _ _ _ _ _ W' (wat_qk h1 h2 h3 h4 (lv_int K (by omega)) (by omega)).qs (hq.below (hBW.trans (hW.mono (by omega)))).qs)
  have hr := RS4.start hB2
  clear hs hq
  generalize ((um : Int) : Rat) = qm at *
  generalize qm - q = y at *
  have hS : ∀ w', RS4 (w.heap.size + 1 + 1) 31 W w' → (w'.cell? ⟨w.heap.size, 0, none⟩ = some (.int .i64 bus) ∧ w'.cell? ⟨w.heap.size, 1, none⟩ = some (.int .i64 mn) ∧ w'.cell? ⟨w.heap.size, 2, none⟩ = some (.slice A' n' c') ∧ w'.cell? ⟨w.heap.size, 3, none⟩ = some (.int .i64 up) ∧ w'.cell? ⟨w.heap.size, 4, none⟩ = some (.int .i64 dn) ∧ w'.cell? ⟨w.heap.size, 5, none⟩ = some (.int .i64 start) ∧ w'.cell? ⟨w.heap.size, 6, none⟩ = some (.int .i64 idle) ∧ w'.cell? ⟨w.heap.size, 7, none⟩ = some (.int .i64 spin) ∧ w'.cell? ⟨w.heap.size, 8, none⟩ = some (.int .i64 on) ∧ w'.cell? ⟨w.heap.size + 1, 0, none⟩ = some (.bool an) ∧ w'.cell? ⟨w.heap.size + 1, 1, none⟩ = some (.slice aA ak ac) ∧ w'.cell? ⟨w.heap.size + 1, 2, none⟩ = some (.bool an') ∧ w'.cell? ⟨w.heap.size + 1, 3, none⟩ = some (.slice aA' ak' ac')) ∧ RS4 (w.heap.size + 1 + 1) 31 W w' := fun w' hk => ⟨⟨(hk.blk hB0 (by omega)).cell 0, (hk.blk hB0 (by omega)).cell 1, (hk.blk hB0 (by omega)).cell 2, (hk.blk hB0 (by omega)).cell 3, (hk.blk hB0 (by omega)).cell 4, (hk.blk hB0 (by omega)).cell 5, (hk.blk hB0 (by omega)).cell 6, (hk.blk hB0 (by omega)).cell 7, (hk.blk hB0 (by omega)).cell 8, (hk.blk hB1 (by omega)).cell 0, (hk.blk hB1 (by omega)).cell 1, (hk.blk hB1 (by omega)).cell 2, (hk.blk hB1 (by omega)).cell 3⟩, hk⟩
  have HS := Lib.hid hS
  clear hS
  go_region_held3 (fun w' => (w'.cell? ⟨w.heap.size, 0, none⟩ = some (.int .i64 bus) ∧ w'.cell? ⟨w.heap.size, 1, none⟩ = some (.int .i64 mn) ∧ w'.cell? ⟨w.heap.size, 2, none⟩ = some (.slice A' n' c') ∧ w'.cell? ⟨w.heap.size, 3, none⟩ = some (.int .i64 up) ∧ w'.cell? ⟨w.heap.size, 4, none⟩ = some (.int .i64 dn) ∧ w'.cell? ⟨w.heap.size, 5, none⟩ = some (.int .i64 start) ∧ w'.cell? ⟨w.heap.size, 6, none⟩ = some (.int .i64 idle) ∧ w'.cell? ⟨w.heap.size, 7, none⟩ = some (.int .i64 spin) ∧ w'.cell? ⟨w.heap.size, 8, none⟩ = some (.int .i64 on) ∧ w'.cell? ⟨w.heap.size + 1, 0, none⟩ = some (.bool an) ∧ w'.cell? ⟨w.heap.size + 1, 1, none⟩ = some (.slice aA ak ac) ∧ w'.cell? ⟨w.heap.size + 1, 2, none⟩ = some (.bool an') ∧ w'.cell? ⟨w.heap.size + 1, 3, none⟩ = some (.slice aA' ak' ac')) ∧ RS4 (w.heap.size + 1 + 1) 31 W w')
   (first | (with_reducible refine HS.out _ ?_; with_reducible assumption) | (with_reducible refine HS.out _ (RS4.drew ?_); with_reducible assumption) | (with_reducible refine' HS.out _ (RS4.drew (And.right ?_)); rotate_left; with_reducible assumption) | (with_reducible refine' HS.out _ (RS4.set (And.right ?_) _ _ _ _); rotate_left; with_reducible assumption))
   (first
    | (go_at_call 64; have hk := And.right ‹_ ∧ RS4 (w.heap.size + 1 + 1) 31 W _›; refine (T.out _ (HS0.out _ hk.1)).mono ?_; rintro e v4 ⟨rfl, hb⟩; have hr := hk.call hb; clear hk hb)
    | (go_at_call 21; have hk := And.right ‹_ ∧ RS4 (w.heap.size + 1 + 1) 31 W _›; refine (FI.out _).mono ?_; rintro e v5 ⟨B3, j3, d3, B4, j4, d4, rfl, hj3, hj4, hV3, hV4, hG3, hG4, hb⟩; have hr := hk.call hb; have hz5 := RS4.lt hr; clear hk hb hG3 hG4)
    | (go_at_call 39; have hk := And.right ‹_ ∧ RS4 (w.heap.size + 1 + 1) 31 W _›; have hl9 := RS4.lt hk; refine (HSUB.out _ hk.1 B3 B4 j3 d3 j4 d4 hj3 hj4 hV3 hV4).mono ?_; rintro e v9 ⟨A9, k9, c9, A10, k10, c10, rfl, hk9, hk10, hW9, hW10, hF9, hF10, hb9⟩; have hr9 := hk.call hb9; obtain ⟨_, _, _, _, f0, f1, f2, f3, f4, f5, f6, f7⟩ := hr9.four; clear hk))
  all_goals
   have hfin := retQ_close hBW (by omega) (by have := HSZ.out; have h9 := hl9; omega) hr9 hk9 hk10 hW9 hW10 hF9 hF10
   obtain ⟨d0, d1, d2, d3, -, -, -, -⟩ := (hr9.done (.bool (decide ((y).num < 0))) (.slice A9 k9 c9) (.bool false) (.slice A10 k10 c10)).four
   have HF := Lib.hid hfin
   clear hfin hl9 hr9 T FI HSUB
   go_wp2
   refine bodyPost_ret (v := .agg #[.bool (decide ((y).num < 0)), .slice A9 k9 c9, .bool false, .slice A10 k10 c10]) ?_ rfl HF.out
   simp [results, Tryz.results38, go_sem, d0, d1, d2, d3]

end Go.Proofs.YtodkhjihkkmplaaGreat
