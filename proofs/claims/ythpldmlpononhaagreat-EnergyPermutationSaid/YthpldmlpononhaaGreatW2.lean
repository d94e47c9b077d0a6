/-
Contracts of compareWords, FromInt64, Int64, Sign, Neg and Cmp of package whole. No statement of the seat is proved here; no conditions beyond those of each theorem.
-/
import Derived.Test.YthpldmlpononhaaGreatW1
namespace Go.Proofs.YthpldmlpononhaaGreat
set_option linter.unusedVariables false
set_option linter.unusedSimpArgs false
open Go.RowKit
open Wd

/-- The sign of a difference, as Go's comparisons return it. -/
def cmpI (a b : Int) : Int := if a < b then -1 else if b < a then 1 else 0
theorem cmpI_lt {a b : Int} (h : a < b) : cmpI a b = -1 := by unfold cmpI; rw [if_pos h]
theorem cmpI_gt {a b : Int} (h : b < a) : cmpI a b = 1 := by unfold cmpI; rw [if_neg (by omega), if_pos h]
theorem cmpI_eq {a b : Int} (h : a = b) : cmpI a b = 0 := by unfold cmpI; rw [if_neg (by omega), if_neg (by omega)]

theorem len_lt_of {a b : Nat} (h : (digs a).length < (digs b).length) : a < b := by
  have h1 := digs_len_lt.1 (Nat.lt_of_lt_of_le (Nat.lt_succ_self _) h : (digs b).length > (digs a).length)
  have h2 := digs_len_le.1 (Nat.le_refl (digs a).length)
  omega

set_option maxHeartbeats 1000000 in
theorem compareWords_any (A A' : Option Addr) (n n' c c' : Nat) (x y : Nat) (w : World) (h : Wat w A n (digs x)) (h' : Wat w A' n' (digs y)) (hm : n ≤ 9223372036854775807) (hm' : n' ≤ 9223372036854775807) :
    Calls Tryz.prog 111 #[.slice A n c, .slice A' n' c'] w fun e w' => e = .returned (.int .i64 (cmpI x y)) ∧ ∃ k, w' = w.drewN k := by
  obtain ⟨hl, hws, hc⟩ := h
  obtain ⟨hl', hws', hc'⟩ := h'
  by_cases hlt : n < n'
  · have hv := len_lt_of (a := x) (b := y) (by omega)
    have e : cmpI x y = -1 := cmpI_lt (by omega)
    have hne : ((n : Int) != (n' : Int)) = true := by simp; omega
    clear hl hl' hc hc'
    rw [e]
    go_enter Tryz.func111, Tryz.ntmps111
    go_wp2
    go_ret
    exact ⟨rfl, 0, rfl⟩
  · by_cases hgt : n' < n
    · have hv := len_lt_of (a := y) (b := x) (by omega)
      have e : cmpI x y = 1 := cmpI_gt (by omega)
      have hne : ((n : Int) != (n' : Int)) = true := by simp; omega
      clear hl hl' hc hc'
      rw [e]
      go_enter Tryz.func111, Tryz.ntmps111
      go_wp2
      go_ret
      exact ⟨rfl, 0, rfl⟩
    · obtain rfl : n' = n := by omega
      have HL := Lib.hid hl
      have HL' := Lib.hid hl'
      have hne : ((n' : Int) != (n' : Int)) = false := by simp
      clear hlt hgt hl hl'
      go_enter Tryz.func111, Tryz.ntmps111
      go_wp2
      go_loopw [5] (fun i wr => ∃ (k q : Nat), k ≤ n' ∧ i = .int .i64 ((k : Int) - 1) ∧ wr = w.drewN q ∧ Hid (∀ j, k ≤ j → (digs x)[j]?.getD 0 = (digs y)[j]?.getD 0)) (fun i _ => (intOf i + 1).toNat)
      case atStart =>
        refine ⟨n', 0, Nat.le_refl _, rfl, rfl, fun j hj => ?_⟩
        rw [List.getElem?_eq_none (by have := HL.out; omega), List.getElem?_eq_none (by have := HL'.out; omega)]
      case round =>
        obtain ⟨k, q, hk, rfl, rfl, hu⟩ := hrel
        by_cases h0 : k = 0
        · subst h0
          have e : cmpI x y = 0 := by
            have hxy : digs x = digs y := by
              apply List.ext_getElem (HL.out.trans HL'.out.symm)
              intro j h1 h2
              have := hu.out j (Nat.zero_le _)
              rw [List.getElem?_eq_getElem h1, List.getElem?_eq_getElem h2] at this
              simpa using this
            have := congrArg val hxy
            rw [val_digs, val_digs] at this
            exact cmpI_eq (by omega)
          have E := Lib.hid e
          clear e
          go_wp2
          go_ret
          rw [E.out]
          exact ⟨rfl, _, rfl⟩
        · obtain ⟨k, rfl⟩ : ∃ j, k = j + 1 := ⟨k - 1, by omega⟩
          obtain ⟨b, o, rfl, hb, hcell⟩ := hc (by omega)
          obtain ⟨b', o', rfl, hb', hcell'⟩ := hc' (by omega)
          have hck := hcell k (by omega)
          have hck' := hcell' k (by omega)
          clear hcell hcell' hc hc' h0
          rw [show ((k + 1 : Nat) : Int) - 1 = (k : Int) by omega]
          generalize hp : (digs x)[k]?.getD 0 = p at *
          generalize hq : (digs y)[k]?.getD 0 = p' at *
          have HP := Lib.hid hp
          have HQ := Lib.hid hq
          have kx : k < (digs x).length := by have := HL.out; omega
          have ky : k < (digs y).length := by have := HL'.out; omega
          have px : (digs x)[k] = p := by rw [List.getElem?_eq_getElem kx] at hp; exact hp
          have py : (digs y)[k] = p' := by rw [List.getElem?_eq_getElem ky] at hq; exact hq
          have PX := Lib.hid px
          have PY := Lib.hid py
          clear hp hq px py
          have hi0 : (0 : Int) ≤ (k : Int) := by omega
          have hi1 : (k : Int) < (n' : Int) := by omega
          rcases Nat.lt_trichotomy p p' with hlt | heq | hgt
          · have hv : x < y := by
              have := val_lt_of_top hws k kx ky (by rw [PX.out, PY.out]; exact hlt) (fun j hj => hu.out j hj) (HL.out.trans HL'.out.symm)
              rwa [val_digs, val_digs] at this
            have e : cmpI x y = -1 := cmpI_lt (by omega)
            have E := Lib.hid e
            clear e hv
            have hb1 : ((p : Int) != (p' : Int)) = true := by simp; omega
            go_wp2
            go_quiet (fail)
            go_wp2
            go_quiet (fail)
            go_wp2
            go_ret
            rw [E.out]
            exact ⟨rfl, _, by rw [World.drewN_drewN, World.drewN_drewN]⟩
          · subst heq
            have hb1 : ((p : Int) != (p : Int)) = false := by simp
            go_wp2
            go_quiet (fail)
            go_wp2
            go_roundw
            case rel =>
              refine ⟨k, _, by omega, rfl, rfl, fun j hj => ?_⟩
              rcases Nat.eq_or_lt_of_le hj with rfl | hj
              · rw [HP.out, HQ.out]
              · exact hu.out j hj
            case measure => simp [intOf]
          · have hv : y < x := by
              have := val_lt_of_top hws' k ky kx (by rw [PX.out, PY.out]; exact hgt) (fun j hj => (hu.out j hj).symm) (HL'.out.trans HL.out.symm)
              rwa [val_digs, val_digs] at this
            have e : cmpI x y = 1 := cmpI_gt (by omega)
            have E := Lib.hid e
            clear e hv
            have hb1 : ((p : Int) != (p' : Int)) = true := by simp; omega
            go_wp2
            go_quiet (fail)
            go_wp2
            go_quiet (fail)
            go_wp2
            go_ret
            rw [E.out]
            exact ⟨rfl, _, by rw [World.drewN_drewN, World.drewN_drewN]⟩

end Go.Proofs.YthpldmlpononhaaGreat
