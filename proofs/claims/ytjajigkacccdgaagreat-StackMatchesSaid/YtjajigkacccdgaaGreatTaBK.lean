/-
The reference of layer 23: the checks of a curve and its sum. No statement of the seat is proved here; no conditions beyond those of each theorem.
-/
import Derived.Test.YtjajigkacccdgaaGreatTaAU
namespace Go.Proofs.YtjajigkacccdgaaGreat
set_option linter.unusedVariables false
set_option linter.unusedSimpArgs false
open Go.RowKit
open Wd

theorem rmany_any (A : Option Addr) (n c : Nat) (w : World) : Calls Tryz.prog 117 #[.slice A n c] w fun e w' => e = .returned (.int .i64 (if n = 0 then 4 else if 3 < n then 5 else 0)) ∧ w = w' := by
 by_cases h0 : n = 0
 ·subst h0
  rw [if_pos rfl]
  go_enter Tryz.func117, Tryz.ntmps117
  go_wp2
  go_ret
  exact ⟨rfl, rfl⟩
 ·rw [if_neg h0]
  have d0 : ((n : Int) == 0) = false := by simp; omega
  by_cases h3 : 3 < n
  ·rw [if_pos h3]
   have d1 : decide ((3 : Int) < (n : Int)) = true := by simp; omega
   go_enter Tryz.func117, Tryz.ntmps117
   go_wp2
   go_ret
   exact ⟨rfl, rfl⟩
  ·rw [if_neg h3]
   have d1 : decide ((3 : Int) < (n : Int)) = false := by simp; omega
   go_enter Tryz.func117, Tryz.ntmps117
   go_wp2
   go_ret
   exact ⟨rfl, rfl⟩

theorem rown_bad (q p : Int) (w : World) (h : Bad q p) : Calls Tryz.prog 118 #[.agg #[.int .i64 q, .int .i64 p]] w fun e w' => e = .returned (.int .i64 1) ∧ Below w.heap.size w w' := by
 have hb4 : q < 1 ∨ (¬ q < 1 ∧ 1000000 < q) ∨ (¬ q < 1 ∧ ¬ 1000000 < q ∧ p < -1000000) ∨ (¬ q < 1 ∧ ¬ 1000000 < q ∧ ¬ p < -1000000 ∧ 1000000 < p) := by unfold Bad at h; omega
 clear h
 rcases hb4 with g1 | ⟨g1, g2⟩ | ⟨g1, g2, g3⟩ | ⟨g1, g2, g3, g4⟩
 all_goals
  go_enter Tryz.func118, Tryz.ntmps118
  go_wp2
  go_ret
  exact ⟨rfl, (Below.refl _ _).alloc (Nat.le_refl _) _⟩
theorem rown_ok (q p : Int) (w : World) (h : ¬ Bad q p) : Calls Tryz.prog 118 #[.agg #[.int .i64 q, .int .i64 p]] w fun e w' => e = .returned (.int .i64 0) ∧ Below w.heap.size w w' := by
 have g1 : ¬ q < 1 := by unfold Bad at h; omega
 have g2 : ¬ 1000000 < q := by unfold Bad at h; omega
 have g3 : ¬ p < -1000000 := by unfold Bad at h; omega
 have g4 : ¬ 1000000 < p := by unfold Bad at h; omega
 clear h
 go_enter Tryz.func118, Tryz.ntmps118
 go_wp2
 go_ret
 exact ⟨rfl, (Below.refl _ _).alloc (Nat.le_refl _) _⟩

/-- The state of the loop: no error yet, or the error that is returned. -/
def RchR (up : Bool) (l : List (Int × Int)) (k : Nat) (x : Int) : Prop := (x = 0 ∧ chkFrom up none l = chkFrom up (pv l k) (l.drop k)) ∨ (x ≠ 0 ∧ chkFrom up none l = x)

set_option maxRecDepth 100000 in
set_option maxHeartbeats 4000000 in
theorem rcheck_up (A : Option Addr) (n c : Nat) (l : List (Int × Int)) (w : World) (h : StAt w A n l) :
  Calls Tryz.prog 65 #[.slice A n c] w fun e w' => e = .returned (.int .i64 (chk true l)) ∧ Below w.heap.size w w' := by
 obtain ⟨hl, hf, hc⟩ := h
 have TM := rmany_any A n c w
 by_cases h0 : n = 0
 ·subst h0
  have e : chk true l = 4 := by unfold chk; rw [if_pos hl]
  rw [e]
  rw [if_pos rfl] at TM
  have HT := Lib.hid TM
  clear TM hl hc hf e
  go_enter Tryz.func65, Tryz.ntmps65
  go_wp2_with fail
  refine HT.out.mono ?_
  rintro e w1 ⟨rfl, rfl⟩
  go_wp2_with fail
  refine wp_loop_rounds 1 ?_
  rw [rounds_succ]
  go_wp2
  go_ret
  exact ⟨rfl, Below.refl _ _⟩
 ·rw [if_neg h0] at TM
  by_cases h3 : 3 < n
  ·have e : chk true l = 5 := by unfold chk; rw [if_neg (by omega), if_pos (by omega)]
   rw [e]
   rw [if_pos h3] at TM
   have HT := Lib.hid TM
   have hnp : (0 : Int) < (n : Int) := by omega
   have hnp' : 0 < n := by omega
   clear TM hl hc hf e
   go_enter Tryz.func65, Tryz.ntmps65
   go_wp2_with fail
   refine HT.out.mono ?_
   rintro e w1 ⟨rfl, rfl⟩
   go_wp2_with fail
   refine wp_loop_rounds 1 ?_
   rw [rounds_succ]
   go_wp2
   go_ret
   exact ⟨rfl, Below.refl _ _⟩
  ·have e : chk true l = chkFrom true none l := by unfold chk; rw [if_neg (by omega), if_neg (by omega)]
   rw [e]
   rw [if_neg h3] at TM
   have HT := Lib.hid TM
   have HL := Lib.hid hl
   obtain ⟨b, o, rfl, hb, hcell⟩ := hc h0
   have HC := Lib.hid hcell
   clear e hl hf hc hcell TM
   go_enter Tryz.func65, Tryz.ntmps65
   go_wp2_with fail
   refine HT.out.mono ?_
   rintro e w1 ⟨rfl, rfl⟩
   clear HT
   go_wp2_with fail
   go_loopw [3, 4] (fun t3 t wr => ∃ (k : Nat) (x : Int), k ≤ n ∧ t = .int .i64 k ∧ t3 = .int .i64 x ∧ Hid (RchR true l k x) ∧ Hid (Below w.heap.size w wr)) (fun t3 t _ => 2 * (n - (intOf t).toNat) + (if (intOf t3) = 0 then 1 else 0))
   case atStart => exact ⟨0, 0, Nat.zero_le _, rfl, rfl, Or.inl ⟨rfl, rfl⟩, Below.refl _ _⟩
   case round =>
    obtain ⟨k, x, hk, rfl, rfl, hR, hB'⟩ := hrel
    have hB := hB'.out
    by_cases hx : x = 0
    ·subst hx
     have hR0 : chkFrom true none l = chkFrom true (pv l k) (l.drop k) := by
      rcases hR.out with ⟨_, hh⟩ | ⟨hh, _⟩
      ·exact hh
      ·exact absurd rfl hh
     have HR := Lib.hid hR0
     clear hR hR0
     by_cases hlt : k < n
     ·obtain ⟨ck, ck'⟩ := HC.out k hlt
      have hck := (hB.cell (p := ⟨b, o + k * 2, none⟩) hb).trans ck
      have hck' := (hB.cell (p := ⟨b, o + k * 2 + 1, none⟩) hb).trans ck'
      have hdr := drop_cons (l := l) (k := k) (by rw [HL.out]; exact hlt)
      have hbr : b < wr.heap.size := Nat.lt_of_lt_of_le hb hB.size
      have hki1 : (0 : Int) ≤ (k : Int) := by omega
      have hki2 : (k : Int) < (n : Int) := by omega
      generalize hsp : l[k]?.getD (0, 0) = sp at *
      obtain ⟨q, p⟩ := sp
      have HDR := Lib.hid hdr
      have HSP := Lib.hid hsp
      clear ck hdr hsp
      simp only at hck hck' ck'
      by_cases hbad : Bad q p
      ·have e : chkFrom true none l = 1 := by rw [HR.out, HDR.out]; exact chkFrom_bad hbad
       have hnew : RchR true l (k + 1) 1 := Or.inr ⟨by decide, e⟩
       have HN := Lib.hid hnew
       have HO := Lib.hid (fun W => rown_bad q p W hbad)
       clear e hnew hbad
       go_wp2_with fail
       refine (HO.out _).mono ?_
       rintro e w2 ⟨rfl, hb2⟩
       have HB2 := Lib.hid (fun j => below_drewN (hB.trans (hb2.mono hB.size)) j)
       clear hb2 HO
       go_wp2_with fail
       go_quiet (fail)
       go_wp2
       go_roundw
       case rel => exact ⟨k + 1, 1, by omega, by go_num, rfl, HN.out, HB2.out _⟩
       case measure => simp [intOf]; omega
      ·have HO := Lib.hid (fun W => rown_ok q p W hbad)
       have HBD := Lib.hid hbad
       clear hbad
       by_cases hk0 : k = 0
       ·subst hk0
        have hd : decide ((0 : Int) < ((0 : Nat) : Int)) = false := by simp
        have hpv1 : pv l (0 + 1) = some p := by unfold pv; rw [if_neg (by omega), show 0 + 1 - 1 = 0 from rfl, HSP.out]
        have hnew : chkFrom true none l = chkFrom true (pv l (0 + 1)) (l.drop (0 + 1)) := by
         rw [HR.out, HDR.out, hpv1]; exact chkFrom_first HBD.out
        clear hpv1
        have HN := Lib.hid (show RchR true l (0 + 1) 0 from Or.inl ⟨rfl, hnew⟩)
        clear hnew
        simp only [Nat.zero_mul, Nat.add_zero] at hck hck'
        go_wp2_with fail
        refine (HO.out _).mono ?_
        rintro e w2 ⟨rfl, hb2⟩
        have HB2 := Lib.hid (fun j => below_drewN (hB.trans (hb2.mono hB.size)) j)
        clear hb2 HO
        go_wp2_with fail
        go_quiet (fail)
        go_wp2
        go_roundw
        case rel => exact ⟨0 + 1, 0, by omega, by go_num, rfl, HN.out, HB2.out _⟩
        case measure => simp [intOf]; omega
       ·obtain ⟨k, rfl⟩ : ∃ j, k = j + 1 := ⟨k - 1, by omega⟩
        obtain ⟨-, cp'⟩ := HC.out k (by omega)
        have hpv : pv l (k + 1) = some (l[k]?.getD (0, 0)).2 := by unfold pv; rw [if_neg (by omega)]; rfl
        generalize hpe : (l[k]?.getD (0, 0)).2 = v at *
        have hR2 : chkFrom true none l = if flw true v p then chkFrom true (some p) (l.drop (k + 1 + 1)) else 3 := by
         rw [HR.out, HDR.out, hpv]; exact chkFrom_next HBD.out
        have HR2 := Lib.hid hR2
        have HPV := Lib.hid (show pv l (k + 1 + 1) = some p by unfold pv; rw [if_neg (by omega), show k + 1 + 1 - 1 = k + 1 from rfl, HSP.out])
        have HCK := Lib.hid ck'
        have HCP := Lib.hid cp'
        have hkp : (0 : Int) < (k : Int) + 1 := by omega
        have hkw : IntKind.i64.wrap ((k : Int) + 1 - 1) = (k : Int) := by rw [show (k : Int) + 1 - 1 = k by omega]; exact IntWalk.i64_in _ (by omega)
        have hkn : (k : Int) < (n : Int) := by omega
        have hk00 : (0 : Int) ≤ (k : Int) := by omega
        clear cp' ck' hR2 hpv hpe hk0
        go_wp2_with fail
        refine (HO.out _).mono ?_
        rintro e w2 ⟨rfl, hb2⟩
        have hB3 := hB.trans (hb2.mono hB.size)
        have HB2 := Lib.hid (fun j => below_drewN hB3 j)
        have y1 := (hB3.cell (p := ⟨b, o + (k + 1) * 2 + 1, none⟩) hb).trans HCK.out
        have y2 := (hB3.cell (p := ⟨b, o + k * 2 + 1, none⟩) hb).trans HCP.out
        clear hb2 HO hB3
        by_cases hfl : p ≤ v
        ·have hfe : flw true v p = false := by unfold flw; simp; omega
         have HN := Lib.hid (show RchR true l (k + 1 + 1) 3 from Or.inr ⟨by decide, by rw [HR2.out, hfe]; rfl⟩)
         have d9 : decide (p ≤ v) = true := by simpa using hfl
         clear hfe
         go_wp2_with fail
         go_quiet (fail)
         go_wp2
         go_roundw
         case rel => exact ⟨k + 1 + 1, 3, by omega, by go_num, rfl, HN.out, HB2.out _⟩
         case measure => simp [intOf]; omega
        ·have hfe : flw true v p = true := by unfold flw; simp; omega
         have HN := Lib.hid (show RchR true l (k + 1 + 1) 0 from Or.inl ⟨rfl, by rw [HR2.out, hfe, HPV.out]; rfl⟩)
         have d9 : decide (p ≤ v) = false := by simpa using hfl
         clear hfe
         go_wp2_with fail
         go_quiet (fail)
         go_wp2
         go_roundw
         case rel => exact ⟨k + 1 + 1, 0, by omega, by go_num, rfl, HN.out, HB2.out _⟩
         case measure => simp [intOf]; omega
     ·obtain rfl : k = n := by omega
      have e : chkFrom true none l = 0 := by rw [HR.out, List.drop_of_length_le (by rw [HL.out]; exact Nat.le_refl _)]; exact chkFrom_nil _ _
      have E := Lib.hid e
      clear e
      go_wp2
      go_ret
      rw [E.out]
      exact ⟨rfl, hB⟩
    ·have e : chkFrom true none l = x := by
      rcases hR.out with ⟨hh, _⟩ | ⟨_, hh⟩
      ·exact absurd hh hx
      ·exact hh
     have E := Lib.hid e
     have dx : (x == 0) = false := by simpa using hx
     clear e hR
     by_cases hlt : k < n
     ·have hki2 : (k : Int) < (n : Int) := by omega
      go_wp2
      go_ret
      rw [E.out]
      exact ⟨rfl, hB⟩
     ·have hki2 : ¬ (k : Int) < (n : Int) := by omega
      go_wp2
      go_ret
      rw [E.out]
      exact ⟨rfl, hB⟩


set_option maxRecDepth 100000 in
set_option maxHeartbeats 4000000 in
theorem rcheck_dn (A : Option Addr) (n c : Nat) (l : List (Int × Int)) (w : World) (h : StAt w A n l) :
  Calls Tryz.prog 67 #[.slice A n c] w fun e w' => e = .returned (.int .i64 (chk false l)) ∧ Below w.heap.size w w' := by
 obtain ⟨hl, hf, hc⟩ := h
 have TM := rmany_any A n c w
 by_cases h0 : n = 0
 ·subst h0
  have e : chk false l = 4 := by unfold chk; rw [if_pos hl]
  rw [e]
  rw [if_pos rfl] at TM
  have HT := Lib.hid TM
  clear TM hl hc hf e
  go_enter Tryz.func67, Tryz.ntmps67
  go_wp2_with fail
  refine HT.out.mono ?_
  rintro e w1 ⟨rfl, rfl⟩
  go_wp2_with fail
  refine wp_loop_rounds 1 ?_
  rw [rounds_succ]
  go_wp2
  go_ret
  exact ⟨rfl, Below.refl _ _⟩
 ·rw [if_neg h0] at TM
  by_cases h3 : 3 < n
  ·have e : chk false l = 5 := by unfold chk; rw [if_neg (by omega), if_pos (by omega)]
   rw [e]
   rw [if_pos h3] at TM
   have HT := Lib.hid TM
   have hnp : (0 : Int) < (n : Int) := by omega
   have hnp' : 0 < n := by omega
   clear TM hl hc hf e
   go_enter Tryz.func67, Tryz.ntmps67
   go_wp2_with fail
   refine HT.out.mono ?_
   rintro e w1 ⟨rfl, rfl⟩
   go_wp2_with fail
   refine wp_loop_rounds 1 ?_
   rw [rounds_succ]
   go_wp2
   go_ret
   exact ⟨rfl, Below.refl _ _⟩
  ·have e : chk false l = chkFrom false none l := by unfold chk; rw [if_neg (by omega), if_neg (by omega)]
   rw [e]
   rw [if_neg h3] at TM
   have HT := Lib.hid TM
   have HL := Lib.hid hl
   obtain ⟨b, o, rfl, hb, hcell⟩ := hc h0
   have HC := Lib.hid hcell
   clear e hl hf hc hcell TM
   go_enter Tryz.func67, Tryz.ntmps67
   go_wp2_with fail
   refine HT.out.mono ?_
   rintro e w1 ⟨rfl, rfl⟩
   clear HT
   go_wp2_with fail
   go_loopw [3, 4] (fun t3 t wr => ∃ (k : Nat) (x : Int), k ≤ n ∧ t = .int .i64 k ∧ t3 = .int .i64 x ∧ Hid (RchR false l k x) ∧ Hid (Below w.heap.size w wr)) (fun t3 t _ => 2 * (n - (intOf t).toNat) + (if (intOf t3) = 0 then 1 else 0))
   case atStart => exact ⟨0, 0, Nat.zero_le _, rfl, rfl, Or.inl ⟨rfl, rfl⟩, Below.refl _ _⟩
   case round =>
    obtain ⟨k, x, hk, rfl, rfl, hR, hB'⟩ := hrel
    have hB := hB'.out
    by_cases hx : x = 0
    ·subst hx
     have hR0 : chkFrom false none l = chkFrom false (pv l k) (l.drop k) := by
      rcases hR.out with ⟨_, hh⟩ | ⟨hh, _⟩
      ·exact hh
      ·exact absurd rfl hh
     have HR := Lib.hid hR0
     clear hR hR0
     by_cases hlt : k < n
     ·obtain ⟨ck, ck'⟩ := HC.out k hlt
      have hck := (hB.cell (p := ⟨b, o + k * 2, none⟩) hb).trans ck
      have hck' := (hB.cell (p := ⟨b, o + k * 2 + 1, none⟩) hb).trans ck'
      have hdr := drop_cons (l := l) (k := k) (by rw [HL.out]; exact hlt)
      have hbr : b < wr.heap.size := Nat.lt_of_lt_of_le hb hB.size
      have hki1 : (0 : Int) ≤ (k : Int) := by omega
      have hki2 : (k : Int) < (n : Int) := by omega
      generalize hsp : l[k]?.getD (0, 0) = sp at *
      obtain ⟨q, p⟩ := sp
      have HDR := Lib.hid hdr
      have HSP := Lib.hid hsp
      clear ck hdr hsp
      simp only at hck hck' ck'
      by_cases hbad : Bad q p
      ·have e : chkFrom false none l = 1 := by rw [HR.out, HDR.out]; exact chkFrom_bad hbad
       have hnew : RchR false l (k + 1) 1 := Or.inr ⟨by decide, e⟩
       have HN := Lib.hid hnew
       have HO := Lib.hid (fun W => rown_bad q p W hbad)
       clear e hnew hbad
       go_wp2_with fail
       refine (HO.out _).mono ?_
       rintro e w2 ⟨rfl, hb2⟩
       have HB2 := Lib.hid (fun j => below_drewN (hB.trans (hb2.mono hB.size)) j)
       clear hb2 HO
       go_wp2_with fail
       go_quiet (fail)
       go_wp2
       go_roundw
       case rel => exact ⟨k + 1, 1, by omega, by go_num, rfl, HN.out, HB2.out _⟩
       case measure => simp [intOf]; omega
      ·have HO := Lib.hid (fun W => rown_ok q p W hbad)
       have HBD := Lib.hid hbad
       clear hbad
       by_cases hk0 : k = 0
       ·subst hk0
        have hd : decide ((0 : Int) < ((0 : Nat) : Int)) = false := by simp
        have hpv1 : pv l (0 + 1) = some p := by unfold pv; rw [if_neg (by omega), show 0 + 1 - 1 = 0 from rfl, HSP.out]
        have hnew : chkFrom false none l = chkFrom false (pv l (0 + 1)) (l.drop (0 + 1)) := by
         rw [HR.out, HDR.out, hpv1]; exact chkFrom_first HBD.out
        clear hpv1
        have HN := Lib.hid (show RchR false l (0 + 1) 0 from Or.inl ⟨rfl, hnew⟩)
        clear hnew
        simp only [Nat.zero_mul, Nat.add_zero] at hck hck'
        go_wp2_with fail
        refine (HO.out _).mono ?_
        rintro e w2 ⟨rfl, hb2⟩
        have HB2 := Lib.hid (fun j => below_drewN (hB.trans (hb2.mono hB.size)) j)
        clear hb2 HO
        go_wp2_with fail
        go_quiet (fail)
        go_wp2
        go_roundw
        case rel => exact ⟨0 + 1, 0, by omega, by go_num, rfl, HN.out, HB2.out _⟩
        case measure => simp [intOf]; omega
       ·obtain ⟨k, rfl⟩ : ∃ j, k = j + 1 := ⟨k - 1, by omega⟩
        obtain ⟨-, cp'⟩ := HC.out k (by omega)
        have hpv : pv l (k + 1) = some (l[k]?.getD (0, 0)).2 := by unfold pv; rw [if_neg (by omega)]; rfl
        generalize hpe : (l[k]?.getD (0, 0)).2 = v at *
        have hR2 : chkFrom false none l = if flw false v p then chkFrom false (some p) (l.drop (k + 1 + 1)) else 3 := by
         rw [HR.out, HDR.out, hpv]; exact chkFrom_next HBD.out
        have HR2 := Lib.hid hR2
        have HPV := Lib.hid (show pv l (k + 1 + 1) = some p by unfold pv; rw [if_neg (by omega), show k + 1 + 1 - 1 = k + 1 from rfl, HSP.out])
        have HCK := Lib.hid ck'
        have HCP := Lib.hid cp'
        have hkp : (0 : Int) < (k : Int) + 1 := by omega
        have hkw : IntKind.i64.wrap ((k : Int) + 1 - 1) = (k : Int) := by rw [show (k : Int) + 1 - 1 = k by omega]; exact IntWalk.i64_in _ (by omega)
        have hkn : (k : Int) < (n : Int) := by omega
        have hk00 : (0 : Int) ≤ (k : Int) := by omega
        clear cp' ck' hR2 hpv hpe hk0
        go_wp2_with fail
        refine (HO.out _).mono ?_
        rintro e w2 ⟨rfl, hb2⟩
        have hB3 := hB.trans (hb2.mono hB.size)
        have HB2 := Lib.hid (fun j => below_drewN hB3 j)
        have y1 := (hB3.cell (p := ⟨b, o + (k + 1) * 2 + 1, none⟩) hb).trans HCK.out
        have y2 := (hB3.cell (p := ⟨b, o + k * 2 + 1, none⟩) hb).trans HCP.out
        clear hb2 HO hB3
        by_cases hfl : v ≤ p
        ·have hfe : flw false v p = false := by unfold flw; simp; omega
         have HN := Lib.hid (show RchR false l (k + 1 + 1) 3 from Or.inr ⟨by decide, by rw [HR2.out, hfe]; rfl⟩)
         have d9 : decide (v ≤ p) = true := by simpa using hfl
         clear hfe
         go_wp2_with fail
         go_quiet (fail)
         go_wp2
         go_roundw
         case rel => exact ⟨k + 1 + 1, 3, by omega, by go_num, rfl, HN.out, HB2.out _⟩
         case measure => simp [intOf]; omega
        ·have hfe : flw false v p = true := by unfold flw; simp; omega
         have HN := Lib.hid (show RchR false l (k + 1 + 1) 0 from Or.inl ⟨rfl, by rw [HR2.out, hfe, HPV.out]; rfl⟩)
         have d9 : decide (v ≤ p) = false := by simpa using hfl
         clear hfe
         go_wp2_with fail
         go_quiet (fail)
         go_wp2
         go_roundw
         case rel => exact ⟨k + 1 + 1, 0, by omega, by go_num, rfl, HN.out, HB2.out _⟩
         case measure => simp [intOf]; omega
     ·obtain rfl : k = n := by omega
      have e : chkFrom false none l = 0 := by rw [HR.out, List.drop_of_length_le (by rw [HL.out]; exact Nat.le_refl _)]; exact chkFrom_nil _ _
      have E := Lib.hid e
      clear e
      go_wp2
      go_ret
      rw [E.out]
      exact ⟨rfl, hB⟩
    ·have e : chkFrom false none l = x := by
      rcases hR.out with ⟨hh, _⟩ | ⟨_, hh⟩
      ·exact absurd hh hx
      ·exact hh
     have E := Lib.hid e
     have dx : (x == 0) = false := by simpa using hx
     clear e hR
     by_cases hlt : k < n
     ·have hki2 : (k : Int) < (n : Int) := by omega
      go_wp2
      go_ret
      rw [E.out]
      exact ⟨rfl, hB⟩
     ·have hki2 : ¬ (k : Int) < (n : Int) := by omega
      go_wp2
      go_ret
      rw [E.out]
      exact ⟨rfl, hB⟩


end Go.Proofs.YtjajigkacccdgaaGreat