/-
Cost of package stack at a whole quantity. Share of package stack at a quantity above the total, and of the empty stack. No statement of the seat is proved here; no conditions beyond those of each theorem.
-/
import Derived.Test.YtjajigkacccdgaaGreatTaBS
namespace Go.Proofs.YtjajigkacccdgaaGreat
set_option linter.unusedVariables false
set_option linter.unusedSimpArgs false
open Go.RowKit
open Wd

theorem prodI_bd2 {l : List (Int × Int)} {z : Int} (hok : OkQ l) (hpr : ∀ s ∈ l, -1000000 ≤ s.2 ∧ s.2 ≤ 1000000) (h0 : 0 ≤ z) {k : Nat} (hk : k < l.length) : (partI l z k * (l[k]?.getD (0, 0)).2).natAbs ≤ 16000000000000 := by
 have hr : ∀ k, k ≤ l.length → 0 ≤ restI l z k := by
  intro k
  induction k with
  | zero => intro _; exact h0
  | succ k ih =>
   intro hk
   have := ih (by omega)
   rw [restI]
   omega
 have ih := hr k (by omega)
 have hb := hok _ (getD_mem (d := (0, 0)) hk)
 have hp := hpr _ (getD_mem (d := (0, 0)) hk)
 rw [Int.natAbs_mul]
 have h2 : (partI l z k).natAbs ≤ 16000000 := by unfold partI; omega
 have h3 : (l[k]?.getD (0, 0)).2.natAbs ≤ 1000000 := by omega
 exact Nat.le_trans (Nat.mul_le_mul h2 h3) (by omega)
theorem costI_bd2 {l : List (Int × Int)} {z : Int} (hok : OkQ l) (hpr : ∀ s ∈ l, -1000000 ≤ s.2 ∧ s.2 ≤ 1000000) (h0 : 0 ≤ z) : ∀ k, k ≤ l.length → (costI l z k).natAbs ≤ 16000000000000 * k
 | 0, _ => by simp [costI]
 | k + 1, hk => by
  have ih := costI_bd2 hok hpr h0 k (by omega)
  have hp := prodI_bd2 hok hpr h0 (k := k) (by omega)
  rw [costI]
  omega
theorem VL.prI {up : Bool} {n : Nat} {lv : List St.Lv} (h : VL up n lv) : ∀ s ∈ lvQ lv, -1000000 ≤ s.2 ∧ s.2 ≤ 1000000 := fun s hs => by
 obtain ⟨x, hx, rfl⟩ := List.mem_map.1 hs
 exact h.price x hx
theorem costOK_stack {up : Bool} {n : Nat} {lv : List St.Lv} {z : Int} (hv : VL up n lv) (h0 : 0 ≤ z) : CostOK 4611686018427387904 2147483648 2 1152921504606846976 2 (lvQ lv) (z : Rat) := by
 have hl := hv.len
 have hl2 := lvQ_len lv
 refine ⟨by omega, by omega, by omega, by omega, by omega, by omega, by omega, by omega, by omega, by omega, by omega, by omega, fun k hk => ?_, fun k hk => ?_⟩
 ·have hb := costI_bd2 hv.okQ hv.prI h0 k hk
  rw [costAt_whole, Rat.num_intCast, Rat.den_intCast]
  omega
 ·have hb := prodI_bd2 hv.okQ hv.prI h0 hk
  rw [prod_whole, Rat.num_intCast, Rat.den_intCast]
  omega
theorem kcost_whole (up : Bool) (A : Option Addr) (m n c : Nat) (lv : List St.Lv) (z : Int) (aA aA' : Option Addr) (ak ac ak' ac' : Nat) (w : World) (h : LvAt w A m n lv) (hv : VL up n lv) (hq : WQ w (z : Rat) aA ak ac aA' ak' ac') (h0 : 0 ≤ z) (h1 : z ≤ totI lv) :
  Calls Tryz.prog 32 #[.slice A m c, .agg #[.bool (decide (((z : Int) : Rat).num < 0)), .slice aA ak ac, .bool false, .slice aA' ak' ac']] w (CstPost w ((costI (lvQ lv) z m : Int) : Rat)) := by
 have hz := (tot_bd lv hv.qty).2
 have hl := hv.len
 have hq2 : QAt 2147483648 2 w (decide (((z : Int) : Rat).num < 0)) aA ak ac false aA' ak' ac' (z : Rat) :=
  qat_len wok_small (by omega) (by omega) hq.1 hq.2.1 hq.2.2.1 hq.2.2.2 (by rw [Rat.num_intCast]; omega) (by rw [Rat.den_intCast]; omega)
 have hT := kcost_ok 4611686018427387904 2147483648 2 1152921504606846976 2 wok_small (by omega) up A m n c lv _ false aA aA' ak ac ak' ac' (z : Rat) w h hq2 hv (by exact_mod_cast h0) (by exact_mod_cast h1) (costOK_stack hv h0)
 rw [costAt_whole] at hT
 exact hT

end Go.Proofs.YtjajigkacccdgaaGreat

namespace Go.Proofs.YtjajigkacccdgaaGreat
set_option linter.unusedVariables false
set_option linter.unusedSimpArgs false
open Go.RowKit
open Wd

set_option maxRecDepth 100000 in
set_option maxHeartbeats 16000000 in
theorem fill_over (M Nn Nd : Nat) (HO : WOK M) (hM1 : 2 * (Nn * Nd) ≤ M) (hM2 : Nd * Nd ≤ M) (hnm : Nn ≤ M) (hdm : Nd ≤ M) (hN : 768000000 < Nn) (hN2 : Nn ≤ M) (hD : 1 < Nd)
  (up : Bool) (A : Option Addr) (n nn c : Nat) (lv : List St.Lv) (an an' : Bool) (aA aA' : Option Addr) (ak ac ak' ac' : Nat) (q : Rat) (w : World) (h : LvAt w A n nn lv) (hq : QAt Nn Nd w an aA ak ac an' aA' ak' ac' q)
  (hv : VL up nn lv) (h0 : 0 ≤ q) (h1 : ((totI lv : Int) : Rat) < q) :
  Calls Tryz.prog 84 #[.slice A n c, .agg #[.bool an, .slice aA ak ac, .bool an', .slice aA' ak' ac']] w
   (fun e w' => e = .returned (.tuple #[.slice none 0 0, .int .i64 1]) ∧ Below w.heap.size w w') := by
 have hln := h.1
 have hn : n ≤ 48 := by have := hv.len; omega
 have hbd := tot_bd lv hv.qty
 have hok := hv.okQ
 have hN3 : 16000000 < Nn := by omega
 have CC := fun W (hW : Below w.heap.size w W) => check_ok up A n nn c lv W (h.below hW) hv
 have SM := fun W (hW : Below w.heap.size w W) => total_ok up A n nn c lv W (h.below hW) hv
 have SG := fun W (hW : Below w.heap.size w W) => qsign_any an an' aA aA' ak ac ak' ac' q W (hq.below hW)
 have hsg : decide (sgnQ q < 0) = false := by
  have := Rat.num_nonneg.2 h0
  unfold sgnQ cmpI
  split
  ·omega
  ·split <;> simp
 have hcm : decide (0 < cmpQ q ((totI lv : Int) : Rat)) = true := by
  unfold cmpQ
  rw [if_neg (by grind), if_pos h1]
  simp
 have FI := fun W => qfromInt64_any (totI lv) W (by omega) (by omega)
 have hCM : ∀ W (hW : Below w.heap.size w W) (B B' : Option Addr) (k d k' d' : Nat), k ≤ d → k' ≤ d' → Wat W B k (digs ((totI lv : Int) : Rat).num.natAbs) → Wat W B' k' (denW ((totI lv : Int) : Rat).den) →
   Calls Tryz.prog 43 #[.agg #[.bool an, .slice aA ak ac, .bool an', .slice aA' ak' ac'], .agg #[.bool (decide (((totI lv : Int) : Rat).num < 0)), .slice B k d, .bool false, .slice B' k' d']] W fun e w' => e = .returned (.int .i64 (cmpQ q ((totI lv : Int) : Rat))) ∧ Below W.heap.size W w' := by
  intro W hW B B' k d k' d' hk hk' h5 h6
  refine qcmp_any (Nn := Nn) (Nd := Nd) an an' _ false aA aA' B B' ak ac ak' ac' k d k' d' q _ W (hq.below hW) (qat_canon hk hk' h5 h6 ?_ ?_ ?_ hD)
  ·rw [← h5.1, show ((totI lv : Int) : Rat).num = totI lv from rfl]
   exact Nat.le_trans (len_le_two (by omega)) (by omega)
  ·rw [← h6.1, show ((totI lv : Int) : Rat).den = 1 from rfl]; simp [denW]
  ·show (totI lv).natAbs < Nn; omega
 have HLN : Hid ((lvQ lv).length = n) := Lib.hid (by rw [lvQ_len]; exact hln)
 generalize sgnQ q = sq at *
 generalize cmpQ q ((totI lv : Int) : Rat) = cq at *
 generalize hqr : ((totI lv : Int) : Rat) = qs at *
 have hs1 : 0 ≤ totI lv := by omega
 have hs2 : totI lv ≤ 768000000 := by omega
 generalize totI lv = sl at *
 have CC := Lib.hid CC
 have SM := Lib.hid SM
 have SG := Lib.hid SG
 have FI := Lib.hid FI
 have HCM := Lib.hid hCM
 have HQ := Lib.hid hq
 have HST := Lib.hid h
 generalize hlq : lvQ lv = l at *
 have HLQ := Lib.hid hlq
 clear hlq hln
 clear hCM hbd hqr h h1 hv hq
 go_enter Tryz.func84, Tryz.ntmps84
 go_wp2_with fail
 obtain ⟨hB0, hBW, hsz⟩ := pre1 w 42 #[.bool an, .slice aA ak ac, .bool an', .slice aA' ak' ac']
 generalize w.alloc (.cells #[.bool an, .slice aA ak ac, .bool an', .slice aA' ak' ac'] 42) = W at *
 have HSZ := Lib.hid hsz
 clear hsz
 refine (CC.out W hBW).mono ?_
 rintro e w1 ⟨rfl, hb1⟩
 have hB0 := hB0.below hb1 hB0.lt
 have hBW : Below w.heap.size w w1 := hBW.trans (hb1.mono hBW.size)
 clear hb1 HSZ CC
 have hBK : ∀ w', Kp w1 w' → Below w.heap.size w w' := fun w' hk => hBW.trans (Below.mono hk hBW.size)
 have HBK := Lib.hid hBK
 clear hBK
 have s5 := Kp.refl w1
 go_wp2_with fail
 have hS : ∀ w', Kp w1 w' → (w'.cell? ⟨w.heap.size, 0, none⟩ = some (.bool an) ∧ w'.cell? ⟨w.heap.size, 1, none⟩ = some (.slice aA ak ac) ∧ w'.cell? ⟨w.heap.size, 2, none⟩ = some (.bool an') ∧ w'.cell? ⟨w.heap.size, 3, none⟩ = some (.slice aA' ak' ac')) ∧ Kp w1 w' := fun w' hk => ⟨⟨(hk.blk hB0).cell 0, (hk.blk hB0).cell 1, (hk.blk hB0).cell 2, (hk.blk hB0).cell 3⟩, hk⟩
 have HS := Lib.hid hS
 clear hS
 go_region_held3 (fun w' => (w'.cell? ⟨w.heap.size, 0, none⟩ = some (.bool an) ∧ w'.cell? ⟨w.heap.size, 1, none⟩ = some (.slice aA ak ac) ∧ w'.cell? ⟨w.heap.size, 2, none⟩ = some (.bool an') ∧ w'.cell? ⟨w.heap.size, 3, none⟩ = some (.slice aA' ak' ac')) ∧ Kp w1 w')
  (first | (with_reducible refine HS.out _ ?_; with_reducible assumption) | (with_reducible refine HS.out _ (Kp.drew ?_); with_reducible assumption) | (with_reducible refine' HS.out _ (Kp.drew (And.right ?_)); rotate_left; with_reducible assumption))
  (first
   | (go_at_call 57; have hk := And.right ‹_ ∧ Kp w1 _›; refine (SG.out _ (HBK.out _ hk)).mono ?_; rintro e v1 ⟨rfl, hb1⟩; have hr1 := hk.trans hb1; clear hb1)
   | (go_at_call 29; have hk := And.right ‹_ ∧ Kp w1 _›; refine (SM.out _ (HBK.out _ hk)).mono ?_; rintro e v2 ⟨rfl, hb2⟩; have hr2 := hk.trans hb2; clear hb2)
   | (go_at_call 40; have hk := And.right ‹_ ∧ Kp w1 _›; refine (FI.out _).mono ?_; rintro e v3 ⟨A3, k3, c3, A4, k4, c4, rfl, hk3, hk4, hW3, hW4, hF3, hF4, hb3⟩; have hr3 := hk.trans hb3; clear hb3)
   | (go_at_call 43; have hk := And.right ‹_ ∧ Kp w1 _›; refine (HCM.out _ (HBK.out _ hk) A3 A4 k3 c3 k4 c4 hk3 hk4 hW3 hW4).mono ?_; rintro e v4 ⟨rfl, hb4⟩; have hr4 := hk.trans hb4; clear hb4))
 rename_i hHeld
 have hB4 : Below w.heap.size w v4 := HBK.out _ hr4
 have HF := Lib.hid hB4
 clear hB4 hHeld hr1 hr2 hr3 hr4 hW3 hW4 hF3 hF4 HCM FI SG SM HBK
 go_wp2
 go_ret2
 exact ⟨rfl, HF.out⟩

set_option maxRecDepth 100000 in
set_option maxHeartbeats 4000000 in
theorem share_over (up : Bool) (A : Option Addr) (m n c : Nat) (lv : List St.Lv) (z : Int) (aA aA' : Option Addr) (ak ac ak' ac' : Nat) (w : World) (h : LvAt w A m n lv) (hv : VL up n lv) (hq : WQ w (z : Rat) aA ak ac aA' ak' ac') (h0 : 0 ≤ z) (h1 : totI lv < z) (h2 : z ≤ 1000000000000) :
  Calls Tryz.prog 31 #[.slice A m c, .agg #[.bool (decide (((z : Int) : Rat).num < 0)), .slice aA ak ac, .bool false, .slice aA' ak' ac']] w fun e w' => e = .returned (.tuple #[.slice none 0 0, .int .i64 1]) ∧ Below w.heap.size w w' := by
 have HF0 := Lib.hid (fun W (hW : Below w.heap.size w W) => fill_over 4611686018427387904 1152921504606846976 2 wok_small (by omega) (by omega) (by omega) (by omega) (by omega) (by omega) (by omega) up A m n c lv _ false aA aA' ak ac ak' ac' (z : Rat) W (h.below hW) ((hq.below hW).at (by rw [Rat.num_intCast]; omega) (by rw [Rat.den_intCast]; omega)) hv (by exact_mod_cast h0) (by exact_mod_cast h1))
 generalize ((z : Int) : Rat) = zq at *
 clear h hv hq h0 h1 h2
 go_enter Tryz.func31, Tryz.ntmps31
 go_wp2_with fail
 obtain ⟨hB0, hBW, hsz⟩ := pre1 w 42 #[.bool (decide (zq.num < 0)), .slice aA ak ac, .bool false, .slice aA' ak' ac']
 generalize w.alloc (.cells #[.bool (decide (zq.num < 0)), .slice aA ak ac, .bool false, .slice aA' ak' ac'] 42) = W at *
 have HSZ := Lib.hid hsz
 clear hsz
 refine (HF0.out W hBW).mono ?_
 rintro e w1 ⟨rfl, hb1⟩
 have HB1 := Lib.hid (hBW.trans (hb1.mono hBW.size))
 clear hb1 hBW
 go_wp2
 go_ret2
 exact ⟨rfl, HB1.out⟩

end Go.Proofs.YtjajigkacccdgaaGreat