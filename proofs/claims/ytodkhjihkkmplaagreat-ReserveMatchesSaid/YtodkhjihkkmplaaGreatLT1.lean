/-
The reference of layer 23: the checks of a curve and its sum. The reference of layer 26: the check of a unit and its maximum. No statement of the seat is proved here; no conditions beyond those of each theorem.
-/
import Derived.Test.YtodkhjihkkmplaaGreatLS1
import Derived.Test.YtodkhjihkkmplaaGreatLU1
namespace Go.Proofs.YtodkhjihkkmplaaGreat
set_option linter.unusedVariables false
set_option linter.unusedSimpArgs false
open Go.RowKit
open Wd

theorem rmany_any (A : Option Addr) (n c : Nat) (w : World) : Calls Tryz.prog 142 #[.slice A n c] w fun e w' => e = .returned (.int .i64 (if n = 0 then 4 else if 3 < n then 5 else 0)) ∧ w = w' := by
 by_cases h0 : n = 0
 ·subst h0
  rw [if_pos rfl]
  go_enter Tryz.func142, Tryz.ntmps142
  go_wp2
  go_ret
  exact ⟨rfl, rfl⟩
 ·rw [if_neg h0]
  have d0 : ((n : Int) == 0) = false := by simp; omega
  by_cases h3 : 3 < n
  ·rw [if_pos h3]
   have d1 : decide ((3 : Int) < (n : Int)) = true := by simp; omega
   go_enter Tryz.func142, Tryz.ntmps142
   go_wp2
   go_ret
   exact ⟨rfl, rfl⟩
  ·rw [if_neg h3]
   have d1 : decide ((3 : Int) < (n : Int)) = false := by simp; omega
   go_enter Tryz.func142, Tryz.ntmps142
   go_wp2
   go_ret
   exact ⟨rfl, rfl⟩

theorem rown_bad (q p : Int) (w : World) (h : Bad q p) : Calls Tryz.prog 143 #[.agg #[.int .i64 q, .int .i64 p]] w fun e w' => e = .returned (.int .i64 1) ∧ Below w.heap.size w w' := by
 have hb4 : q < 1 ∨ (¬ q < 1 ∧ 1000000 < q) ∨ (¬ q < 1 ∧ ¬ 1000000 < q ∧ p < -1000000) ∨ (¬ q < 1 ∧ ¬ 1000000 < q ∧ ¬ p < -1000000 ∧ 1000000 < p) := by unfold Bad at h; omega
 clear h
 rcases hb4 with g1 | ⟨g1, g2⟩ | ⟨g1, g2, g3⟩ | ⟨g1, g2, g3, g4⟩
 all_goals
  go_enter Tryz.func143, Tryz.ntmps143
  go_wp2
  go_ret
  exact ⟨rfl, (Below.refl _ _).alloc (Nat.le_refl _) _⟩
theorem rown_ok (q p : Int) (w : World) (h : ¬ Bad q p) : Calls Tryz.prog 143 #[.agg #[.int .i64 q, .int .i64 p]] w fun e w' => e = .returned (.int .i64 0) ∧ Below w.heap.size w w' := by
 have g1 : ¬ q < 1 := by unfold Bad at h; omega
 have g2 : ¬ 1000000 < q := by unfold Bad at h; omega
 have g3 : ¬ p < -1000000 := by unfold Bad at h; omega
 have g4 : ¬ 1000000 < p := by unfold Bad at h; omega
 clear h
 go_enter Tryz.func143, Tryz.ntmps143
 go_wp2
 go_ret
 exact ⟨rfl, (Below.refl _ _).alloc (Nat.le_refl _) _⟩

/-- The state of the loop: no error yet, or the error that is returned. -/
def RchR (up : Bool) (l : List (Int × Int)) (k : Nat) (x : Int) : Prop := (x = 0 ∧ chkFrom up none l = chkFrom up (pv l k) (l.drop k)) ∨ (x ≠ 0 ∧ chkFrom up none l = x)

set_option maxRecDepth 100000 in
set_option maxHeartbeats 4000000 in
theorem rcheck_up (A : Option Addr) (n c : Nat) (l : List (Int × Int)) (w : World) (h : StAt w A n l) :
  Calls Tryz.prog 94 #[.slice A n c] w fun e w' => e = .returned (.int .i64 (chk true l)) ∧ Below w.heap.size w w' := by
 obtain ⟨hl, hf, hc⟩ := h
 have TM := rmany_any A n c w
 by_cases h0 : n = 0
 ·subst h0
  have e : chk true l = 4 := by unfold chk; rw [if_pos hl]
  rw [e]
  rw [if_pos rfl] at TM
  have HT := Lib.hid TM
  clear TM hl hc hf e
  go_enter Tryz.func94, Tryz.ntmps94
  go_wp2_with fail
  refine HT.out.mono ?_
  rintro e w1 ⟨rfl, rfl⟩
  go_wp2_with fail
  refine wp_loop_rounds 1 ?_
  rw [rounds_succ]
  go_wp2
  go_ret
  exact ⟨rfl, Below.refl _ _⟩
 ·rw [if_neg h0] at TM
  by_cases h3 : 3 < n
  ·have e : chk true l = 5 := by unfold chk; rw [if_neg (by omega), if_pos (by omega)]
   rw [e]
   rw [if_pos h3] at TM
   have HT := Lib.hid TM
   have hnp : (0 : Int) < (n : Int) := by omega
   have hnp' : 0 < n := by omega
   clear TM hl hc hf e
   go_enter Tryz.func94, Tryz.ntmps94
   go_wp2_with fail
   refine HT.out.mono ?_
   rintro e w1 ⟨rfl, rfl⟩
   go_wp2_with fail
   refine wp_loop_rounds 1 ?_
   rw [rounds_succ]
   go_wp2
   go_ret
   exact ⟨rfl, Below.refl _ _⟩
  ·have e : chk true l = chkFrom true none l := by unfold chk; rw [if_neg (by omega), if_neg (by omega)]
   rw [e]
   rw [if_neg h3] at TM
   have HT := Lib.hid TM
   have HL := Lib.hid hl
   obtain ⟨b, o, rfl, hb, hcell⟩ := hc h0
   have HC := Lib.hid hcell
   clear e hl hf hc hcell TM
   go_enter Tryz.func94, Tryz.ntmps94
   go_wp2_with fail
   refine HT.out.mono ?_
   rintro e w1 ⟨rfl, rfl⟩
   clear HT
   go_wp2_with fail
   go_loopw [3, 4] (fun t3 t wr => ∃ (k : Nat) (x : Int), k ≤ n ∧ t = .int .i64 k ∧ t3 = .int .i64 x ∧ Hid (RchR true l k x) ∧ Hid (Below w.heap.size w wr)) (fun t3 t _ => 2 * (n - (intOf t).toNat) + (if (intOf t3) = 0 then 1 else 0))
   case atStart => exact ⟨0, 0, Nat.zero_le _, rfl, rfl, Or.inl ⟨rfl, rfl⟩, Below.refl _ _⟩
   case round =>
    obtain ⟨k, x, hk, rfl, rfl, hR, hB'⟩ := hrel
    have hB := hB'.out
    by_cases hx : x = 0
    ·subst hx
     have hR0 : chkFrom true none l = chkFrom true (pv l k) (l.drop k) := by
      rcases hR.out with ⟨_, hh⟩ | ⟨hh, _⟩
      ·exact hh
      ·exact absurd rfl hh
     have HR := Lib.hid hR0
     clear hR hR0
     by_cases hlt : k < n
     ·obtain ⟨ck, ck'⟩ := HC.out k hlt
      have hck := (hB.cell (p := ⟨b, o + k * 2, none⟩) hb).trans ck
      have hck' := (hB.cell (p := ⟨b, o + k * 2 + 1, none⟩) hb).trans ck'
      have hdr := drop_cons (l := l) (k := k) (by rw [HL.out]; exact hlt)
      have hbr : b < wr.heap.size := Nat.lt_of_lt_of_le hb hB.size
      have hki1 : (0 : Int) ≤ (k : Int) := by omega
      have hki2 : (k : Int) < (n : Int) := by omega
      generalize hsp : l[k]?.getD (0, 0) = sp at *
      obtain ⟨q, p⟩ := sp
      have HDR := Lib.hid hdr
      have HSP := Lib.hid hsp
      clear ck hdr hsp
      simp only at hck hck' ck'
      by_cases hbad : Bad q p
      ·have e : chkFrom true none l = 1 := by rw [HR.out, HDR.out]; exact chkFrom_bad hbad
       have hnew : RchR true l (k + 1) 1 := Or.inr ⟨by decide, e⟩
       have HN := Lib.hid hnew
       have HO := Lib.hid (fun W => rown_bad q p W hbad)
       clear e hnew hbad
       go_wp2_with fail
       refine (HO.out _).mono ?_
       rintro e w2 ⟨rfl, hb2⟩
       have HB2 := Lib.hid (fun j => below_drewN (hB.trans (hb2.mono hB.size)) j)
       clear hb2 HO
       go_wp2_with fail
       go_quiet (fail)
       go_wp2
       go_roundw
       case rel => exact ⟨k + 1, 1, by omega, by go_num, rfl, HN.out, HB2.out _⟩
       case measure => simp [intOf]; omega
      ·have HO := Lib.hid (fun W => rown_ok q p W hbad)
       have HBD := Lib.hid hbad
       clear hbad
       by_cases hk0 : k = 0
       ·subst hk0
        have hd : decide ((0 : Int) < ((0 : Nat) : Int)) = false := by simp
        have hpv1 : pv l (0 + 1) = some p := by unfold pv; rw [if_neg (by omega), show 0 + 1 - 1 = 0 from rfl, HSP.out]
        have hnew : chkFrom true none l = chkFrom true (pv l (0 + 1)) (l.drop (0 + 1)) := by
         rw [HR.out, HDR.out, hpv1]; exact chkFrom_first HBD.out
        clear hpv1
        have HN := Lib.hid (show RchR true l (0 + 1) 0 from Or.inl ⟨rfl, hnew⟩)
        clear hnew
        simp only [Nat.zero_mul, Nat.add_zero] at hck hck'
        go_wp2_with fail
        refine (HO.out _).mono ?_
        rintro e w2 ⟨rfl, hb2⟩
        have HB2 := Lib.hid (fun j => below_drewN (hB.trans (hb2.mono hB.size)) j)
        clear hb2 HO
        go_wp2_with fail
        go_quiet (fail)
        go_wp2
        go_roundw
        case rel => exact ⟨0 + 1, 0, by omega, by go_num, rfl, HN.out, HB2.out _⟩
        case measure => simp [intOf]; omega
       ·obtain ⟨k, rfl⟩ : ∃ j, k = j + 1 := ⟨k - 1, by omega⟩
        obtain ⟨-, cp'⟩ := HC.out k (by omega)
        have hpv : pv l (k + 1) = some (l[k]?.getD (0, 0)).2 := by unfold pv; rw [if_neg (by omega)]; rfl
        generalize hpe : (l[k]?.getD (0, 0)).2 = v at *
        have hR2 : chkFrom true none l = if flw true v p then chkFrom true (some p) (l.drop (k + 1 + 1)) else 3 := by
         rw [HR.out, HDR.out, hpv]; exact chkFrom_next HBD.out
        have HR2 := Lib.hid hR2
        have HPV := Lib.hid (show pv l (k + 1 + 1) = some p by unfold pv; rw [if_neg (by omega), show k + 1 + 1 - 1 = k + 1 from rfl, HSP.out])
        have HCK := Lib.hid ck'
        have HCP := Lib.hid cp'
        have hkp : (0 : Int) < (k : Int) + 1 := by omega
        have hkw : IntKind.i64.wrap ((k : Int) + 1 - 1) = (k : Int) := by rw [show (k : Int) + 1 - 1 = k by omega]; exact IntWalk.i64_in _ (by omega)
        have hkn : (k : Int) < (n : Int) := by omega
        have hk00 : (0 : Int) ≤ (k : Int) := by omega
        clear cp' ck' hR2 hpv hpe hk0
        go_wp2_with fail
        refine (HO.out _).mono ?_
        rintro e w2 ⟨rfl, hb2⟩
        have hB3 := hB.trans (hb2.mono hB.size)
        have HB2 := Lib.hid (fun j => below_drewN hB3 j)
        have y1 := (hB3.cell (p := ⟨b, o + (k + 1) * 2 + 1, none⟩) hb).trans HCK.out
        have y2 := (hB3.cell (p := ⟨b, o + k * 2 + 1, none⟩) hb).trans HCP.out
        clear hb2 HO hB3
        by_cases hfl : p ≤ v
        ·have hfe : flw true v p = false := by unfold flw; simp; omega
         have HN := Lib.hid (show RchR true l (k + 1 + 1) 3 from Or.inr ⟨by decide, by rw [HR2.out, hfe]; rfl⟩)
         have d9 : decide (p ≤ v) = true := by simpa using hfl
         clear hfe
         go_wp2_with fail
         go_quiet (fail)
         go_wp2
         go_roundw
         case rel => exact ⟨k + 1 + 1, 3, by omega, by go_num, rfl, HN.out, HB2.out _⟩
         case measure => simp [intOf]; omega
        ·have hfe : flw true v p = true := by unfold flw; simp; omega
         have HN := Lib.hid (show RchR true l (k + 1 + 1) 0 from Or.inl ⟨rfl, by rw [HR2.out, hfe, HPV.out]; rfl⟩)
         have d9 : decide (p ≤ v) = false := by simpa using hfl
         clear hfe
         go_wp2_with fail
         go_quiet (fail)
         go_wp2
         go_roundw
         case rel => exact ⟨k + 1 + 1, 0, by omega, by go_num, rfl, HN.out, HB2.out _⟩
         case measure => simp [intOf]; omega
     ·obtain rfl : k = n := by omega
      have e : chkFrom true none l = 0 := by rw [HR.out, List.drop_of_length_le (by rw [HL.out]; exact Nat.le_refl _)]; exact chkFrom_nil _ _
      have E := Lib.hid e
      clear e
      go_wp2
      go_ret
      rw [E.out]
      exact ⟨rfl, hB⟩
    ·have e : chkFrom true none l = x := by
      rcases hR.out with ⟨hh, _⟩ | ⟨_, hh⟩
      ·exact absurd hh hx
      ·exact hh
     have E := Lib.hid e
     have dx : (x == 0) = false := by simpa using hx
     clear e hR
     by_cases hlt : k < n
     ·have hki2 : (k : Int) < (n : Int) := by omega
      go_wp2
      go_ret
      rw [E.out]
      exact ⟨rfl, hB⟩
     ·have hki2 : ¬ (k : Int) < (n : Int) := by omega
      go_wp2
      go_ret
      rw [E.out]
      exact ⟨rfl, hB⟩


set_option maxRecDepth 100000 in
set_option maxHeartbeats 4000000 in
theorem rcheck_dn (A : Option Addr) (n c : Nat) (l : List (Int × Int)) (w : World) (h : StAt w A n l) :
  Calls Tryz.prog 163 #[.slice A n c] w fun e w' => e = .returned (.int .i64 (chk false l)) ∧ Below w.heap.size w w' := by
 obtain ⟨hl, hf, hc⟩ := h
 have TM := rmany_any A n c w
 by_cases h0 : n = 0
 ·subst h0
  have e : chk false l = 4 := by unfold chk; rw [if_pos hl]
  rw [e]
  rw [if_pos rfl] at TM
  have HT := Lib.hid TM
  clear TM hl hc hf e
  go_enter Tryz.func163, Tryz.ntmps163
  go_wp2_with fail
  refine HT.out.mono ?_
  rintro e w1 ⟨rfl, rfl⟩
  go_wp2_with fail
  refine wp_loop_rounds 1 ?_
  rw [rounds_succ]
  go_wp2
  go_ret
  exact ⟨rfl, Below.refl _ _⟩
 ·rw [if_neg h0] at TM
  by_cases h3 : 3 < n
  ·have e : chk false l = 5 := by unfold chk; rw [if_neg (by omega), if_pos (by omega)]
   rw [e]
   rw [if_pos h3] at TM
   have HT := Lib.hid TM
   have hnp : (0 : Int) < (n : Int) := by omega
   have hnp' : 0 < n := by omega
   clear TM hl hc hf e
   go_enter Tryz.func163, Tryz.ntmps163
   go_wp2_with fail
   refine HT.out.mono ?_
   rintro e w1 ⟨rfl, rfl⟩
   go_wp2_with fail
   refine wp_loop_rounds 1 ?_
   rw [rounds_succ]
   go_wp2
   go_ret
   exact ⟨rfl, Below.refl _ _⟩
  ·have e : chk false l = chkFrom false none l := by unfold chk; rw [if_neg (by omega), if_neg (by omega)]
   rw [e]
   rw [if_neg h3] at TM
   have HT := Lib.hid TM
   have HL := Lib.hid hl
   obtain ⟨b, o, rfl, hb, hcell⟩ := hc h0
   have HC := Lib.hid hcell
   clear e hl hf hc hcell TM
   go_enter Tryz.func163, Tryz.ntmps163
   go_wp2_with fail
   refine HT.out.mono ?_
   rintro e w1 ⟨rfl, rfl⟩
   clear HT
   go_wp2_with fail
   go_loopw [3, 4] (fun t3 t wr => ∃ (k : Nat) (x : Int), k ≤ n ∧ t = .int .i64 k ∧ t3 = .int .i64 x ∧ Hid (RchR false l k x) ∧ Hid (Below w.heap.size w wr)) (fun t3 t _ => 2 * (n - (intOf t).toNat) + (if (intOf t3) = 0 then 1 else 0))
   case atStart => exact ⟨0, 0, Nat.zero_le _, rfl, rfl, Or.inl ⟨rfl, rfl⟩, Below.refl _ _⟩
   case round =>
    obtain ⟨k, x, hk, rfl, rfl, hR, hB'⟩ := hrel
    have hB := hB'.out
    by_cases hx : x = 0
    ·subst hx
     have hR0 : chkFrom false none l = chkFrom false (pv l k) (l.drop k) := by
      rcases hR.out with ⟨_, hh⟩ | ⟨hh, _⟩
      ·exact hh
      ·exact absurd rfl hh
     have HR := Lib.hid hR0
     clear hR hR0
     by_cases hlt : k < n
     ·obtain ⟨ck, ck'⟩ := HC.out k hlt
      have hck := (hB.cell (p := ⟨b, o + k * 2, none⟩) hb).trans ck
      have hck' := (hB.cell (p := ⟨b, o + k * 2 + 1, none⟩) hb).trans ck'
      have hdr := drop_cons (l := l) (k := k) (by rw [HL.out]; exact hlt)
      have hbr : b < wr.heap.size := Nat.lt_of_lt_of_le hb hB.size
      have hki1 : (0 : Int) ≤ (k : Int) := by omega
      have hki2 : (k : Int) < (n : Int) := by omega
      generalize hsp : l[k]?.getD (0, 0) = sp at *
      obtain ⟨q, p⟩ := sp
      have HDR := Lib.hid hdr
      have HSP := Lib.hid hsp
      clear ck hdr hsp
      simp only at hck hck' ck'
      by_cases hbad : Bad q p
      ·have e : chkFrom false none l = 1 := by rw [HR.out, HDR.out]; exact chkFrom_bad hbad
       have hnew : RchR false l (k + 1) 1 := Or.inr ⟨by decide, e⟩
       have HN := Lib.hid hnew
       have HO := Lib.hid (fun W => rown_bad q p W hbad)
       clear e hnew hbad
       go_wp2_with fail
       refine (HO.out _).mono ?_
       rintro e w2 ⟨rfl, hb2⟩
       have HB2 := Lib.hid (fun j => below_drewN (hB.trans (hb2.mono hB.size)) j)
       clear hb2 HO
       go_wp2_with fail
       go_quiet (fail)
       go_wp2
       go_roundw
       case rel => exact ⟨k + 1, 1, by omega, by go_num, rfl, HN.out, HB2.out _⟩
       case measure => simp [intOf]; omega
      ·have HO := Lib.hid (fun W => rown_ok q p W hbad)
       have HBD := Lib.hid hbad
       clear hbad
       by_cases hk0 : k = 0
       ·subst hk0
        have hd : decide ((0 : Int) < ((0 : Nat) : Int)) = false := by simp
        have hpv1 : pv l (0 + 1) = some p := by unfold pv; rw [if_neg (by omega), show 0 + 1 - 1 = 0 from rfl, HSP.out]
        have hnew : chkFrom false none l = chkFrom false (pv l (0 + 1)) (l.drop (0 + 1)) := by
         rw [HR.out, HDR.out, hpv1]; exact chkFrom_first HBD.out
        clear hpv1
        have HN := Lib.hid (show RchR false l (0 + 1) 0 from Or.inl ⟨rfl, hnew⟩)
        clear hnew
        simp only [Nat.zero_mul, Nat.add_zero] at hck hck'
        go_wp2_with fail
        refine (HO.out _).mono ?_
        rintro e w2 ⟨rfl, hb2⟩
        have HB2 := Lib.hid (fun j => below_drewN (hB.trans (hb2.mono hB.size)) j)
        clear hb2 HO
        go_wp2_with fail
        go_quiet (fail)
        go_wp2
        go_roundw
        case rel => exact ⟨0 + 1, 0, by omega, by go_num, rfl, HN.out, HB2.out _⟩
        case measure => simp [intOf]; omega
       ·obtain ⟨k, rfl⟩ : ∃ j, k = j + 1 := ⟨k - 1, by omega⟩
        obtain ⟨-, cp'⟩ := HC.out k (by omega)
        have hpv : pv l (k + 1) = some (l[k]?.getD (0, 0)).2 := by unfold pv; rw [if_neg (by omega)]; rfl
        generalize hpe : (l[k]?.getD (0, 0)).2 = v at *
        have hR2 : chkFrom false none l = if flw false v p then chkFrom false (some p) (l.drop (k + 1 + 1)) else 3 := by
         rw [HR.out, HDR.out, hpv]; exact chkFrom_next HBD.out
        have HR2 := Lib.hid hR2
        have HPV := Lib.hid (show pv l (k + 1 + 1) = some p by unfold pv; rw [if_neg (by omega), show k + 1 + 1 - 1 = k + 1 from rfl, HSP.out])
        have HCK := Lib.hid ck'
        have HCP := Lib.hid cp'
        have hkp : (0 : Int) < (k : Int) + 1 := by omega
        have hkw : IntKind.i64.wrap ((k : Int) + 1 - 1) = (k : Int) := by rw [show (k : Int) + 1 - 1 = k by omega]; exact IntWalk.i64_in _ (by omega)
        have hkn : (k : Int) < (n : Int) := by omega
        have hk00 : (0 : Int) ≤ (k : Int) := by omega
        clear cp' ck' hR2 hpv hpe hk0
        go_wp2_with fail
        refine (HO.out _).mono ?_
        rintro e w2 ⟨rfl, hb2⟩
        have hB3 := hB.trans (hb2.mono hB.size)
        have HB2 := Lib.hid (fun j => below_drewN hB3 j)
        have y1 := (hB3.cell (p := ⟨b, o + (k + 1) * 2 + 1, none⟩) hb).trans HCK.out
        have y2 := (hB3.cell (p := ⟨b, o + k * 2 + 1, none⟩) hb).trans HCP.out
        clear hb2 HO hB3
        by_cases hfl : v ≤ p
        ·have hfe : flw false v p = false := by unfold flw; simp; omega
         have HN := Lib.hid (show RchR false l (k + 1 + 1) 3 from Or.inr ⟨by decide, by rw [HR2.out, hfe]; rfl⟩)
         have d9 : decide (v ≤ p) = true := by simpa using hfl
         clear hfe
         go_wp2_with fail
         go_quiet (fail)
         go_wp2
         go_roundw
         case rel => exact ⟨k + 1 + 1, 3, by omega, by go_num, rfl, HN.out, HB2.out _⟩
         case measure => simp [intOf]; omega
        ·have hfe : flw false v p = true := by unfold flw; simp; omega
         have HN := Lib.hid (show RchR false l (k + 1 + 1) 0 from Or.inl ⟨rfl, by rw [HR2.out, hfe, HPV.out]; rfl⟩)
         have d9 : decide (v ≤ p) = false := by simpa using hfl
         clear hfe
         go_wp2_with fail
         go_quiet (fail)
         go_wp2
         go_roundw
         case rel => exact ⟨k + 1 + 1, 0, by omega, by go_num, rfl, HN.out, HB2.out _⟩
         case measure => simp [intOf]; omega
     ·obtain rfl : k = n := by omega
      have e : chkFrom false none l = 0 := by rw [HR.out, List.drop_of_length_le (by rw [HL.out]; exact Nat.le_refl _)]; exact chkFrom_nil _ _
      have E := Lib.hid e
      clear e
      go_wp2
      go_ret
      rw [E.out]
      exact ⟨rfl, hB⟩
    ·have e : chkFrom false none l = x := by
      rcases hR.out with ⟨hh, _⟩ | ⟨_, hh⟩
      ·exact absurd hh hx
      ·exact hh
     have E := Lib.hid e
     have dx : (x == 0) = false := by simpa using hx
     clear e hR
     by_cases hlt : k < n
     ·have hki2 : (k : Int) < (n : Int) := by omega
      go_wp2
      go_ret
      rw [E.out]
      exact ⟨rfl, hB⟩
     ·have hki2 : ¬ (k : Int) < (n : Int) := by omega
      go_wp2
      go_ret
      rw [E.out]
      exact ⟨rfl, hB⟩

theorem rcurve_any (A : Option Addr) (n c : Nat) (l : List (Int × Int)) (w : World) (h : StAt w A n l) :
  Calls Tryz.prog 144 #[.slice A n c] w fun e w' => e = .returned (.int .i64 (curveE l)) ∧ Below w.heap.size w w' := by
 have T1 := rcheck_dn A n c l w h
 have HT2 := Lib.hid (fun W hW => rcheck_up A n c l W (h.below hW))
 by_cases h0 : chk false l = 0
 ·have e : curveE l = 0 := by unfold curveE; rw [if_pos h0]
  rw [e]
  rw [h0] at T1
  have HT1 := Lib.hid T1
  clear T1 h h0 e
  go_enter Tryz.func144, Tryz.ntmps144
  go_wp2_with fail
  refine HT1.out.mono ?_
  rintro e w1 ⟨rfl, hb1⟩
  go_wp2
  go_ret
  exact ⟨rfl, hb1⟩
 ·have e : curveE l = chk true l := by unfold curveE; rw [if_neg h0]
  rw [e]
  clear e
  generalize chk false l = x at *
  have dx : (x == 0) = false := by simpa using h0
  have HT1 := Lib.hid T1
  clear T1 h h0
  go_enter Tryz.func144, Tryz.ntmps144
  go_wp2_with fail
  refine HT1.out.mono ?_
  rintro e w1 ⟨rfl, hb1⟩
  have HB1 := Lib.hid hb1
  clear hb1
  go_wp2_with fail
  refine (HT2.out w1 HB1.out).mono ?_
  rintro e w2 ⟨rfl, hb2⟩
  have HB2 := Lib.hid (HB1.out.trans (hb2.mono HB1.out.size))
  clear hb2
  go_wp2
  go_ret
  exact ⟨rfl, HB2.out⟩

set_option maxHeartbeats 2000000 in
theorem rsum_any (A : Option Addr) (n c : Nat) (l : List (Int × Int)) (w : World) (h : StAt w A n l) :
  Calls Tryz.prog 95 #[.slice A n c] w fun e w' => e = .returned (.int .i64 (sumS l)) ∧ Below w.heap.size w w' := by
 have HCV := Lib.hid (fun W (hW : Below w.heap.size w W) => rcurve_any A n c l W (h.below hW))
 by_cases h0 : curveE l = 0
 ·obtain ⟨hn0, hn3, hok⟩ := curve_ok h0
  have e : sumS l = qsum l := by unfold sumS; rw [if_pos h0]
  rw [e]
  rw [h0] at HCV
  have HST := Lib.hid h
  have HOK := Lib.hid hok
  have HLN := Lib.hid h.1
  have hn3' : n ≤ 3 := by have := h.1; omega
  clear h h0 e hok hn0 hn3
  go_enter Tryz.func95, Tryz.ntmps95
  go_wp2_with fail
  go_loopw [3, 4] (fun t3 t wr => ∃ k : Nat, k ≤ n ∧ t = .int .i64 k ∧ t3 = .int .i64 (qsum (l.take k)) ∧ Hid (Below w.heap.size w wr)) (fun _ t _ => n - (intOf t).toNat)
  case atStart => exact ⟨0, Nat.zero_le _, rfl, rfl, Below.refl _ _⟩
  case round =>
   obtain ⟨k, hk, rfl, rfl, hB⟩ := hrel
   by_cases hlt : k < n
   ·obtain ⟨b, o, rfl, hb, hcell⟩ := HST.out.2.2 (by omega)
    obtain ⟨ck, -⟩ := hcell k hlt
    have HCK := Lib.hid ck
    have hki1 : (0 : Int) ≤ (k : Int) := by omega
    have hki2 : (k : Int) < (n : Int) := by omega
    have hts := take_snocS (l := l) (k := k) (by rw [HLN.out]; exact hlt)
    have hqs : qsum (l.take (k + 1)) = qsum (l.take k) + (l[k]?.getD (0, 0)).1 := by rw [hts, qsum_snoc]
    have hmem : (l[k]?.getD (0, 0)) ∈ l := by rw [List.getElem?_eq_getElem (by rw [HLN.out]; exact hlt)]; exact List.getElem_mem _
    have hbad := HOK.out _ hmem
    unfold Bad at hbad
    have hbd := qsum_bd (l.take k) (fun s hs => HOK.out s (List.mem_of_mem_take hs))
    have hl2 : (l.take k).length ≤ 3 := by have := List.length_take_le k l; omega
    generalize (l[k]?.getD (0, 0)).1 = q at *
    have q1 : 1 ≤ q := by omega
    have q2 : q ≤ 1000000 := by omega
    have HQS := Lib.hid hqs
    clear hqs hts hmem hbad ck hcell
    generalize qsum (l.take k) = s at *
    have s1 : 0 ≤ s := by omega
    have s2 : s ≤ 3000000 := by omega
    clear hbd hl2
    go_wp2_with fail
    refine (HCV.out _ hB.out).mono ?_
    rintro e w2 ⟨rfl, hb2⟩
    have hB3 := hB.out.trans (hb2.mono hB.out.size)
    have y1 := (hB3.cell (p := ⟨b, o + k * 2, none⟩) hb).trans HCK.out
    have HB2 := Lib.hid hB3
    clear hb2 hB3
    go_wp2
    go_roundw
    case rel => exact ⟨k + 1, by omega, by go_num, by rw [HQS.out], HB2.out⟩
    case measure => simp [intOf]; omega
   ·obtain rfl : k = n := by omega
    have hta : l.take k = l := List.take_of_length_le (by rw [HLN.out]; exact Nat.le_refl _)
    rw [hta]
    clear hta
    go_wp2
    go_ret
    exact ⟨rfl, hB.out⟩
 ·have e : sumS l = 0 := by unfold sumS; rw [if_neg h0]
  rw [e]
  clear e h
  generalize curveE l = x at *
  have dx : (x == 0) = false := by simpa using h0
  clear h0
  by_cases hn : n = 0
  ·subst hn
   go_enter Tryz.func95, Tryz.ntmps95
   go_wp2_with fail
   refine wp_loop_rounds 1 ?_
   rw [rounds_succ]
   go_wp2
   go_ret
   exact ⟨rfl, Below.refl _ _⟩
  ·have hnp : (0 : Int) < (n : Int) := by omega
   have hnp' : 0 < n := by omega
   go_enter Tryz.func95, Tryz.ntmps95
   go_wp2_with fail
   refine wp_loop_rounds 1 ?_
   rw [rounds_succ]
   go_wp2_with fail
   refine (HCV.out _ (Below.refl _ _)).mono ?_
   rintro e w2 ⟨rfl, hb2⟩
   go_wp2
   go_ret
   exact ⟨rfl, hb2⟩

end Go.Proofs.YtodkhjihkkmplaaGreat

namespace Go.Proofs.YtodkhjihkkmplaaGreat
set_option linter.unusedVariables false
set_option linter.unusedSimpArgs false
open Go.RowKit
open Wd

set_option maxHeartbeats 2000000 in
theorem rumax_raw (bus mn up dn start idle spin on : Int) (A : Option Addr) (n c : Nat) (l : List (Int × Int)) (w : World) (h : StAt w A n l) :
  Calls Tryz.prog 64 #[.agg #[.int .i64 bus, .int .i64 mn, .slice A n c, .int .i64 up, .int .i64 dn, .int .i64 start, .int .i64 idle, .int .i64 spin, .int .i64 on]] w fun e w' => e = .returned (.int .i64 (umax ⟨bus, mn, l, up, dn, start, idle, spin, on⟩)) ∧ Below w.heap.size w w' := by
 have T := fun W hW => rcheck_up A n c l W hW
 have TS := fun W hW => rsum_any A n c l W hW
 unfold umax
 simp only
 by_cases h3 : chk true l = 0
 ·rw [if_pos h3]
  rw [sumS_offer h3] at TS
  rw [h3] at T
  generalize qsum l = qs at *
  have HT := Lib.hid T
  have HTS := Lib.hid TS
  clear h3 T TS
  go_enter Tryz.func64, Tryz.ntmps64
  go_wp2_with fail
  obtain ⟨hB0, hBW, hsz⟩ := pre1 w 48 #[.int .i64 bus, .int .i64 mn, .slice A n c, .int .i64 up, .int .i64 dn, .int .i64 start, .int .i64 idle, .int .i64 spin, .int .i64 on]
  generalize w.alloc (.cells #[.int .i64 bus, .int .i64 mn, .slice A n c, .int .i64 up, .int .i64 dn, .int .i64 start, .int .i64 idle, .int .i64 spin, .int .i64 on] 48) = W at *
  have HSZ := Lib.hid hsz
  clear hsz
  refine (HT.out W (h.below hBW)).mono ?_
  rintro e w1 ⟨rfl, hb1⟩
  have hB0 := hB0.below hb1 hB0.lt
  have hb1 : Below w.heap.size w w1 := hBW.trans (hb1.mono hBW.size)
  obtain ⟨c0, c1, c2, c3, c4, c5, c6, c7, c8⟩ := hB0.nine
  clear hBW HSZ hB0
  go_wp2_with fail
  refine (HTS.out w1 (h.below hb1)).mono ?_
  rintro e w2 ⟨rfl, hb2⟩
  clear c0 c1 c2 c3 c4 c5 c6 c7 c8
  go_wp2
  go_ret
  exact ⟨rfl, hb1.trans (hb2.mono hb1.size)⟩
 ·rw [if_neg h3]
  generalize chk true l = x at *
  have hx : (x != 0) = true := by simpa using h3
  have HT := Lib.hid T
  clear h3 T TS
  go_enter Tryz.func64, Tryz.ntmps64
  go_wp2_with fail
  obtain ⟨hB0, hBW, hsz⟩ := pre1 w 48 #[.int .i64 bus, .int .i64 mn, .slice A n c, .int .i64 up, .int .i64 dn, .int .i64 start, .int .i64 idle, .int .i64 spin, .int .i64 on]
  generalize w.alloc (.cells #[.int .i64 bus, .int .i64 mn, .slice A n c, .int .i64 up, .int .i64 dn, .int .i64 start, .int .i64 idle, .int .i64 spin, .int .i64 on] 48) = W at *
  have HSZ := Lib.hid hsz
  clear hsz
  refine (HT.out W (h.below hBW)).mono ?_
  rintro e w1 ⟨rfl, hb1⟩
  have hb1 : Below w.heap.size w w1 := hBW.trans (hb1.mono hBW.size)
  go_wp2
  go_ret
  exact ⟨rfl, hb1⟩

end Go.Proofs.YtodkhjihkkmplaaGreat
