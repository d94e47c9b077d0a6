/-
checkCurves, MergeOffers and MergeBids of package stack. No statement of the seat is proved here; no conditions beyond those of each theorem.
-/
import Derived.Test.YtjajigkacccdgaaGreatTaAX
namespace Go.Proofs.YtjajigkacccdgaaGreat
set_option linter.unusedVariables false
set_option linter.unusedSimpArgs false
open Go.RowKit
open Go.Sort (HoldsK)
open Wd

/-- The first curve that does not pass, and why. -/
def ckF (up : Bool) : Nat → List (List (Int × Int)) → Int × Int
 | _, [] => (0, 0)
 | k, l :: ls => if chk up l ≠ 0 then ((k : Int), chk up l) else ckF up (k + 1) ls
def ckC (up : Bool) (ls : List (List (Int × Int))) : Int × Int := if 16 < ls.length then (0, 5) else ckF up 0 ls
theorem dropL {ls : List (List (Int × Int))} {k : Nat} (hk : k < ls.length) : ls.drop k = (ls[k]?.getD []) :: ls.drop (k + 1) := by
 rw [List.drop_eq_getElem_cons hk, List.getElem?_eq_getElem hk]; rfl
theorem ckF_good {up : Bool} : ∀ {ls : List (List (Int × Int))} {k : Nat}, (ckF up k ls).2 = 0 → ∀ l ∈ ls, chk up l = 0
 | [], _, _, l, hl => by simp at hl
 | x :: ls, k, h, l, hl => by
  rw [ckF] at h
  by_cases hx : chk up x = 0
  ·rw [if_neg (by simpa using hx)] at h
   rcases List.mem_cons.1 hl with rfl | hl
   ·exact hx
   ·exact ckF_good h l hl
  ·rw [if_pos hx] at h
   exact absurd h hx
theorem ckC_good {up : Bool} {ls : List (List (Int × Int))} (h : (ckC up ls).2 = 0) : ls.length ≤ 16 ∧ (∀ l ∈ ls, chk up l = 0) ∧ Good ls := by
 unfold ckC at h
 split at h
 ·simp at h
 ·rename_i hn
  have hg := ckF_good h
  exact ⟨by omega, hg, fun l hl => ⟨(chk_ok (hg l hl)).2.1, (chk_ok (hg l hl)).2.2.2⟩⟩


set_option maxRecDepth 100000 in
set_option maxHeartbeats 4000000 in
theorem ccurves_offers (A : Option Addr) (n c : Nat) (ls : List (List (Int × Int))) (w : World) (h : CsAt w A n ls) (hs : ∀ l ∈ ls, l.length ≤ 1000000000000) :
  Calls Tryz.prog 68 #[.slice A n c, .func (.func 69) #[] #[]] w fun e w' => e = .returned (.tuple #[.int .i64 (ckC true ls).1, .int .i64 (ckC true ls).2]) ∧ Below w.heap.size w w' := by
 by_cases h5 : 16 < n
 ·have e : ckC true ls = (0, 5) := by unfold ckC; rw [if_pos (by rw [h.1]; exact h5)]
  have d5 : decide ((16 : Int) < (n : Int)) = true := by simp; omega
  rw [e]
  clear h e hs
  go_enter Tryz.func68, Tryz.ntmps68
  go_wp2
  go_ret2
  exact ⟨rfl, Below.refl _ _⟩
 ·have e : ckC true ls = ckF true 0 ls := by unfold ckC; rw [if_neg (by rw [h.1]; exact h5)]
  have d5 : decide ((16 : Int) < (n : Int)) = false := by simp; omega
  have HE := Lib.hid e
  have HC := Lib.hid h
  have HLN := Lib.hid h.1
  have HS := Lib.hid hs
  clear e h hs
  go_enter Tryz.func68, Tryz.ntmps68
  go_wp2_with fail
  go_loopw [14] (fun t wr => ∃ k : Nat, k ≤ n ∧ t = .int .i64 k ∧ Hid (ckF true 0 ls = ckF true k (ls.drop k)) ∧ Hid (Below w.heap.size w wr)) (fun t _ => n - (intOf t).toNat)
  case atStart => exact ⟨0, Nat.zero_le _, rfl, rfl, Below.refl _ _⟩
  case round =>
   obtain ⟨k, hk, rfl, hR, hB⟩ := hrel
   by_cases hlt : k < n
   ·obtain ⟨b, o, rfl, hb, hcell⟩ := HC.out.2 (by omega)
    obtain ⟨A', n', c', hci, hsi⟩ := hcell k hlt
    have hc2 := (hB.out.cell (p := ⟨b, o + k, none⟩) hb).trans hci
    have hn' : n' ≤ 1000000000000 := by
     rw [← hsi.1]
     exact HS.out _ (getD_mem (d := []) (show k < ls.length by rw [HLN.out]; exact hlt))
    have hr := hR.out
    rw [dropL (by rw [HLN.out]; exact hlt), ckF] at hr
    have T := checkOffer_any A' n' c' _ wr (hsi.below hB.out) hn'
    have hki1 : (0 : Int) ≤ (k : Int) := by omega
    have hki2 : (k : Int) < (n : Int) := by omega
    generalize ls[k]?.getD [] = l at *
    clear hcell hci hsi
    by_cases hz : chk true l = 0
    ·rw [if_neg (by simpa using hz)] at hr
     rw [hz] at T
     have HT := Lib.hid T
     have HR := Lib.hid hr
     clear T hr hz hR
     go_wp2_with fail
     refine HT.out.mono ?_
     rintro e w2 ⟨rfl, hb2⟩
     have HB2 := Lib.hid (hB.out.trans (hb2.mono hB.out.size))
     clear hb2 HT
     go_wp2
     go_roundw
     case rel => exact ⟨k + 1, by omega, by go_num, HR.out, HB2.out⟩
     case measure => simp [intOf]; omega
    ·rw [if_pos hz] at hr
     generalize chk true l = x at *
     have hx : (x != 0) = true := by simpa using hz
     have HT := Lib.hid T
     have HR := Lib.hid hr
     clear T hr hz hR
     go_wp2_with fail
     refine HT.out.mono ?_
     rintro e w2 ⟨rfl, hb2⟩
     have HB2 := Lib.hid (hB.out.trans (hb2.mono hB.out.size))
     clear hb2 HT
     go_wp2
     go_ret2
     rw [HE.out, HR.out]
     exact ⟨rfl, HB2.out⟩
   ·obtain rfl : k = n := by omega
    have hr := hR.out
    rw [List.drop_of_length_le (by rw [HLN.out]; exact Nat.le_refl _), ckF] at hr
    have HR := Lib.hid hr
    clear hr hR
    go_wp2
    go_ret2
    rw [HE.out, HR.out]
    exact ⟨rfl, hB.out⟩

set_option maxRecDepth 100000 in
set_option maxHeartbeats 4000000 in
theorem ccurves_bids (A : Option Addr) (n c : Nat) (ls : List (List (Int × Int))) (w : World) (h : CsAt w A n ls) (hs : ∀ l ∈ ls, l.length ≤ 1000000000000) :
  Calls Tryz.prog 68 #[.slice A n c, .func (.func 73) #[] #[]] w fun e w' => e = .returned (.tuple #[.int .i64 (ckC false ls).1, .int .i64 (ckC false ls).2]) ∧ Below w.heap.size w w' := by
 by_cases h5 : 16 < n
 ·have e : ckC false ls = (0, 5) := by unfold ckC; rw [if_pos (by rw [h.1]; exact h5)]
  have d5 : decide ((16 : Int) < (n : Int)) = true := by simp; omega
  rw [e]
  clear h e hs
  go_enter Tryz.func68, Tryz.ntmps68
  go_wp2
  go_ret2
  exact ⟨rfl, Below.refl _ _⟩
 ·have e : ckC false ls = ckF false 0 ls := by unfold ckC; rw [if_neg (by rw [h.1]; exact h5)]
  have d5 : decide ((16 : Int) < (n : Int)) = false := by simp; omega
  have HE := Lib.hid e
  have HC := Lib.hid h
  have HLN := Lib.hid h.1
  have HS := Lib.hid hs
  clear e h hs
  go_enter Tryz.func68, Tryz.ntmps68
  go_wp2_with fail
  go_loopw [14] (fun t wr => ∃ k : Nat, k ≤ n ∧ t = .int .i64 k ∧ Hid (ckF false 0 ls = ckF false k (ls.drop k)) ∧ Hid (Below w.heap.size w wr)) (fun t _ => n - (intOf t).toNat)
  case atStart => exact ⟨0, Nat.zero_le _, rfl, rfl, Below.refl _ _⟩
  case round =>
   obtain ⟨k, hk, rfl, hR, hB⟩ := hrel
   by_cases hlt : k < n
   ·obtain ⟨b, o, rfl, hb, hcell⟩ := HC.out.2 (by omega)
    obtain ⟨A', n', c', hci, hsi⟩ := hcell k hlt
    have hc2 := (hB.out.cell (p := ⟨b, o + k, none⟩) hb).trans hci
    have hn' : n' ≤ 1000000000000 := by
     rw [← hsi.1]
     exact HS.out _ (getD_mem (d := []) (show k < ls.length by rw [HLN.out]; exact hlt))
    have hr := hR.out
    rw [dropL (by rw [HLN.out]; exact hlt), ckF] at hr
    have T := checkBid_any A' n' c' _ wr (hsi.below hB.out) hn'
    have hki1 : (0 : Int) ≤ (k : Int) := by omega
    have hki2 : (k : Int) < (n : Int) := by omega
    generalize ls[k]?.getD [] = l at *
    clear hcell hci hsi
    by_cases hz : chk false l = 0
    ·rw [if_neg (by simpa using hz)] at hr
     rw [hz] at T
     have HT := Lib.hid T
     have HR := Lib.hid hr
     clear T hr hz hR
     go_wp2_with fail
     refine HT.out.mono ?_
     rintro e w2 ⟨rfl, hb2⟩
     have HB2 := Lib.hid (hB.out.trans (hb2.mono hB.out.size))
     clear hb2 HT
     go_wp2
     go_roundw
     case rel => exact ⟨k + 1, by omega, by go_num, HR.out, HB2.out⟩
     case measure => simp [intOf]; omega
    ·rw [if_pos hz] at hr
     generalize chk false l = x at *
     have hx : (x != 0) = true := by simpa using hz
     have HT := Lib.hid T
     have HR := Lib.hid hr
     clear T hr hz hR
     go_wp2_with fail
     refine HT.out.mono ?_
     rintro e w2 ⟨rfl, hb2⟩
     have HB2 := Lib.hid (hB.out.trans (hb2.mono hB.out.size))
     clear hb2 HT
     go_wp2
     go_ret2
     rw [HE.out, HR.out]
     exact ⟨rfl, HB2.out⟩
   ·obtain rfl : k = n := by omega
    have hr := hR.out
    rw [List.drop_of_length_le (by rw [HLN.out]; exact Nat.le_refl _), ckF] at hr
    have HR := Lib.hid hr
    clear hr hR
    go_wp2
    go_ret2
    rw [HE.out, HR.out]
    exact ⟨rfl, hB.out⟩

end Go.Proofs.YtjajigkacccdgaaGreat
