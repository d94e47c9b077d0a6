/-
traded of package clear: the least quantity at which the next unit is not worth trading. The statements of layer 24: at. Plain law of Share: all of a stack, nothing of it. The statements of layer 24: awake. The walk of StackCompleteness. No statement of the seat is proved here; no conditions beyond those of each theorem.
-/
import Derived.Test.YtjajigkacccdgaaGreatTbBN
import Derived.Test.YtjajigkacccdgaaGreatTbBL
import Derived.Test.YtjajigkacccdgaaGreatTbBF
namespace Go.Proofs.YtjajigkacccdgaaGreat
set_option linter.unusedVariables false
set_option linter.unusedSimpArgs false
open Go.RowKit
open Wd

/-- The price of the unit u of a stack. -/
def uP : List St.Lv → Int → Option Int
 | [], _ => none
 | x :: r, u => if u < x.2.1 then some x.1 else uP r (u - x.2.1)
theorem uP_at : ∀ {lv : List St.Lv} {i : Nat} {u : Int}, (∀ x ∈ lv, 0 < x.2.1 ∧ x.2.1 ≤ 16000000) → i < lv.length → totI (lv.take i) ≤ u → u < totI (lv.take i) + (lv[i]?.getD Lv0).2.1 → uP lv u = some (lv[i]?.getD Lv0).1
 | [], _, _, _, hi, _, _ => by simp at hi
 | x :: r, 0, u, h, _, h1, h2 => by
  simp only [List.take_zero, totI, List.map_nil, sumI, List.getElem?_cons_zero, Option.getD_some] at h1 h2 ⊢
  rw [uP, if_pos (by omega)]
 | x :: r, i + 1, u, h, hi, h1, h2 => by
  have hx := h x (List.mem_cons_self ..)
  have hr := tot_bd (r.take i) fun y hy => h y (List.mem_cons_of_mem _ (List.mem_of_mem_take hy))
  have e : totI ((x :: r).take (i + 1)) = x.2.1 + totI (r.take i) := by simp [totI, sumI]
  rw [e] at h1 h2
  rw [List.getElem?_cons_succ] at h2 ⊢
  rw [uP, if_neg (by omega)]
  exact uP_at (fun y hy => h y (List.mem_cons_of_mem _ hy)) (by simpa using hi) (by omega) (by omega)
theorem uP_out : ∀ {lv : List St.Lv} {u : Int}, (∀ x ∈ lv, 0 < x.2.1 ∧ x.2.1 ≤ 16000000) → totI lv ≤ u → uP lv u = none
 | [], _, _, _ => rfl
 | x :: r, u, h, h1 => by
  have hr := tot_bd r fun y hy => h y (List.mem_cons_of_mem _ hy)
  have e : totI (x :: r) = x.2.1 + totI r := rfl
  rw [e] at h1
  rw [uP, if_neg (by omega)]
  exact uP_out (fun y hy => h y (List.mem_cons_of_mem _ hy)) (by omega)
/-- Is the unit u worth trading? -/
def okU (S D : List St.Lv) (u : Int) : Prop := ∃ a b, uP S u = some a ∧ uP D u = some b ∧ a < b
/-- The quantity traded. -/
def TrZ (S D : List St.Lv) (z : Int) : Prop := 0 ≤ z ∧ (∀ u, 0 ≤ u → u < z → okU S D u) ∧ ¬ okU S D z
theorem TrZ.only {S D : List St.Lv} {z z' : Int} (h : TrZ S D z) (h' : TrZ S D z') : z = z' := by
 rcases Int.lt_trichotomy z z' with hl | hl | hl
 ·exact absurd (h'.2.1 z h.1 hl) h.2.2
 ·exact hl
 ·exact absurd (h.2.1 z' h'.1 hl) h'.2.2

/-- While the levels are gone through. -/
structure TrI (S D : List St.Lv) (i k : Nat) (z s b : Int) : Prop where
 s0 : 0 ≤ s
 b0 : 0 ≤ b
 si : i < S.length → s < (S[i]?.getD Lv0).2.1
 bi : k < D.length → b < (D[k]?.getD Lv0).2.1
 se : ¬ i < S.length → s = 0
 be : ¬ k < D.length → b = 0
 zs : z = totI (S.take i) + s
 zb : z = totI (D.take k) + b
 ok : ∀ u, 0 ≤ u → u < z → okU S D u
theorem TrI.start {S D : List St.Lv} (hS : ∀ x ∈ S, 0 < x.2.1 ∧ x.2.1 ≤ 16000000) (hD : ∀ x ∈ D, 0 < x.2.1 ∧ x.2.1 ≤ 16000000) : TrI S D 0 0 0 0 0 :=
 ⟨Int.le_refl _, Int.le_refl _, fun h => (hS _ (getD_mem h)).1, fun h => (hD _ (getD_mem h)).1, fun _ => rfl, fun _ => rfl, by simp [totI, sumI], by simp [totI, sumI], fun u h0 h1 => by omega⟩
theorem TrI.stop {S D : List St.Lv} {i k : Nat} {z s b : Int} (h : TrI S D i k z s b) (hS : ∀ x ∈ S, 0 < x.2.1 ∧ x.2.1 ≤ 16000000) (hD : ∀ x ∈ D, 0 < x.2.1 ∧ x.2.1 ≤ 16000000)
  (hx : ¬ (i < S.length ∧ k < D.length ∧ (S[i]?.getD Lv0).1 < (D[k]?.getD Lv0).1)) : TrZ S D z := by
 have b1 := (tot_bd (S.take i) fun x hx => hS x (List.mem_of_mem_take hx)).1
 have hs0 := h.s0
 have hzs := h.zs
 have hzb := h.zb
 refine ⟨by omega, h.ok, ?_⟩
 rintro ⟨a, c, h1, h2, h3⟩
 by_cases hi : i < S.length
 ·by_cases hk : k < D.length
  ·have e1 := uP_at hS hi (u := z) (by omega) (by have := h.si hi; omega)
   have e2 := uP_at hD hk (u := z) (by have := h.b0; omega) (by have := h.bi hk; omega)
   rw [e1] at h1
   rw [e2] at h2
   simp at h1 h2
   exact hx ⟨hi, hk, by omega⟩
  ·have hb := h.be hk
   rw [List.take_of_length_le (by omega)] at hzb
   rw [uP_out hD (by omega)] at h2
   simp at h2
 ·have hs := h.se hi
  rw [List.take_of_length_le (by omega)] at hzs
  rw [uP_out hS (by omega)] at h1
  simp at h1
theorem TrI.next {S D : List St.Lv} {i k : Nat} {z s b a : Int} (h : TrI S D i k z s b) (hS : ∀ x ∈ S, 0 < x.2.1 ∧ x.2.1 ≤ 16000000) (hD : ∀ x ∈ D, 0 < x.2.1 ∧ x.2.1 ≤ 16000000)
  (hi : i < S.length) (hk : k < D.length) (hp : (S[i]?.getD Lv0).1 < (D[k]?.getD Lv0).1) (ha : a = min ((S[i]?.getD Lv0).2.1 - s) ((D[k]?.getD Lv0).2.1 - b)) :
  TrI S D (if s + a = (S[i]?.getD Lv0).2.1 then i + 1 else i) (if b + a = (D[k]?.getD Lv0).2.1 then k + 1 else k) (z + a) (if s + a = (S[i]?.getD Lv0).2.1 then 0 else s + a) (if b + a = (D[k]?.getD Lv0).2.1 then 0 else b + a) := by
 have hsi := h.si hi
 have hbi := h.bi hk
 have hs0 := h.s0
 have hb0 := h.b0
 have hzs := h.zs
 have hzb := h.zb
 have t1 := tot_snoc hi
 have t2 := tot_snoc hk
 refine ⟨?_, ?_, fun hl => ?_, fun hl => ?_, fun hl => ?_, fun hl => ?_, ?_, ?_, fun u h0 h1 => ?_⟩
 ·split <;> omega
 ·split <;> omega
 ·split at hl
  ·rename_i e
   rw [if_pos e, if_pos e]
   exact (hS _ (getD_mem hl)).1
  ·rename_i e
   rw [if_neg e, if_neg e]
   omega
 ·split at hl
  ·rename_i e
   rw [if_pos e, if_pos e]
   exact (hD _ (getD_mem hl)).1
  ·rename_i e
   rw [if_neg e, if_neg e]
   omega
 ·split at hl
  ·rename_i e; rw [if_pos e]
  ·exact absurd hi hl
 ·split at hl
  ·rename_i e; rw [if_pos e]
  ·exact absurd hk hl
 ·split <;> omega
 ·split <;> omega
 ·by_cases hu : u < z
  ·exact h.ok u h0 hu
  ·exact ⟨_, _, uP_at hS hi (by omega) (by omega), uP_at hD hk (by omega) (by omega), hp⟩

set_option maxRecDepth 100000 in
set_option maxHeartbeats 8000000 in
theorem traded_any (A B : Option Addr) (m n c m' n' c' : Nat) (S D : List St.Lv) (w : World) (h : LvAt w A m n S) (h' : LvAt w B m' n' D) (hS : ∀ x ∈ S, 0 < x.2.1 ∧ x.2.1 ≤ 16000000) (hD : ∀ x ∈ D, 0 < x.2.1 ∧ x.2.1 ≤ 16000000) (hm : m ≤ 48) (hm' : m' ≤ 48) :
  Calls Tryz.prog 105 #[.slice A m c, .slice B m' c'] w fun e w' => ∃ z, e = .returned (.int .i64 z) ∧ TrZ S D z ∧ Below w.heap.size w w' := by
 have HA := Lib.hid h
 have HB := Lib.hid h'
 have HLN := Lib.hid h.1
 have HMN := Lib.hid h'.1
 have HS := Lib.hid hS
 have HD := Lib.hid hD
 clear h h' hS hD
 go_enter Tryz.func105, Tryz.ntmps105
 go_wp2_with fail
 go_loopw [5, 6, 7, 8, 9] (fun tz ts tb ti tk wr => ∃ (i k : Nat) (z s b : Int), i ≤ m ∧ k ≤ m' ∧ tz = .int .i64 z ∧ ts = .int .i64 s ∧ tb = .int .i64 b ∧ ti = .int .i64 i ∧ tk = .int .i64 k ∧ Hid (Below w.heap.size w wr ∧ TrI S D i k z s b)) (fun _ _ _ ti tk _ => (m - (intOf ti).toNat) + (m' - (intOf tk).toNat))
 case atStart => exact ⟨0, 0, 0, 0, 0, Nat.zero_le _, Nat.zero_le _, rfl, rfl, rfl, rfl, rfl, Below.refl _ _, TrI.start HS.out HD.out⟩
 case round =>
  obtain ⟨i, k, z, s, b, hi, hk, rfl, rfl, rfl, rfl, rfl, hR⟩ := hrel
  have i1 : (0 : Int) ≤ (i : Int) := by omega
  have k1 : (0 : Int) ≤ (k : Int) := by omega
  by_cases hlt : i < m
  ·have i2 : (i : Int) < (m : Int) := by omega
   by_cases hlt2 : k < m'
   ·have k2 : (k : Int) < (m' : Int) := by omega
    obtain ⟨b1, o1, rfl, hb1, hc1⟩ := HA.out.2 (by omega)
    obtain ⟨b2, o2, rfl, hb2, hc2⟩ := HB.out.2 (by omega)
    obtain ⟨P1, d1, ⟨y0, y1, -⟩, -⟩ := hc1 i hlt
    obtain ⟨P2, d2, ⟨z0, z1, -⟩, -⟩ := hc2 k hlt2
    replace y0 := (hR.out.1.cell (p := ⟨b1, o1 + i * 3, none⟩) hb1).trans y0
    replace y1 := (hR.out.1.cell (p := ⟨b1, o1 + i * 3 + 1, none⟩) hb1).trans y1
    replace z0 := (hR.out.1.cell (p := ⟨b2, o2 + k * 3, none⟩) hb2).trans z0
    replace z1 := (hR.out.1.cell (p := ⟨b2, o2 + k * 3 + 1, none⟩) hb2).trans z1
    have hil : i < S.length := by rw [HLN.out]; exact hlt
    have hkl : k < D.length := by rw [HMN.out]; exact hlt2
    have hq1 := HS.out _ (getD_mem (d := Lv0) hil)
    have hq2 := HD.out _ (getD_mem (d := Lv0) hkl)
    have hsi := hR.out.2.si hil
    have hbi := hR.out.2.bi hkl
    have hs0 := hR.out.2.s0
    have hb0 := hR.out.2.b0
    have hnx := fun a => hR.out.2.next (a := a) HS.out HD.out hil hkl
    have hst := hR.out.2.stop HS.out HD.out
    have hzb : 0 ≤ z ∧ z ≤ 16000000 * 49 := by
     have t1 := hR.out.2.zs
     have t2 := tot_bd (S.take i) fun x hx => HS.out x (List.mem_of_mem_take hx)
     have t3 := List.length_take_le i S
     omega
    generalize (S[i]?.getD Lv0).1 = p at *
    generalize (S[i]?.getD Lv0).2.1 = q at *
    generalize (D[k]?.getD Lv0).1 = p' at *
    generalize (D[k]?.getD Lv0).2.1 = q' at *
    by_cases hp : p < p'
    ·obtain ⟨a, ha⟩ : ∃ a, a = min (q - s) (q' - b) := ⟨_, rfl⟩
     have hnx := hnx a hp ha
     have dp : decide (p < p') = true := decide_eq_true hp
     have xq : IntKind.i64.wrap (q - s) = q - s := IntWalk.i64_in _ (by omega)
     have xq' : IntKind.i64.wrap (q' - b) = q' - b := IntWalk.i64_in _ (by omega)
     have ha1 : min (q - s) (q' - b) = a := ha.symm
     have ha2 : (if q' - b < q - s then q' - b else q - s) = a := by rw [ha]; split <;> omega
     have ha3 : (if q - s ≤ q' - b then q - s else q' - b) = a := by rw [ha]; split <;> omega
     have xz : IntKind.i64.wrap (z + a) = z + a := IntWalk.i64_in _ (by omega)
     have xs : IntKind.i64.wrap (s + a) = s + a := IntWalk.i64_in _ (by omega)
     have xb : IntKind.i64.wrap (b + a) = b + a := IntWalk.i64_in _ (by omega)
     have HNX := Lib.hid hnx
     have HBB := Lib.hid hR.out.1
     have HAA := Lib.hid (show s + a = q ∨ b + a = q' by omega)
     clear hnx hst hR hc1 hc2 hil hkl hq1 hq2 hsi hbi hs0 hb0 hzb ha hp hb1 hb2
     go_wp2_with fail
     go_quiet (fail)
     go_wp2_with fail
     have i1' : (0 : Int) ≤ (i : Int) := by omega
     have k1' : (0 : Int) ≤ (k : Int) := by omega
     have i2' : (i : Int) < (m : Int) := by omega
     have k2' : (k : Int) < (m' : Int) := by omega
     go_quiet (fail)
     by_cases g1 : s + a = q
     ·by_cases g2 : b + a = q'
      ·have hn9 := HNX.out
       rw [if_pos g1, if_pos g2, if_pos g1, if_pos g2] at hn9
       have d1 : (s + a == q) = true := by simpa using g1
       have d2 : (b + a == q') = true := by simpa using g2
       have HN9 := Lib.hid hn9
       clear hn9 HNX HAA g1 g2
       go_wp2
       go_roundw
       case rel => exact ⟨i + 1, k + 1, z + a, 0, 0, by omega, by omega, rfl, rfl, rfl, by first | rfl | go_num, by first | rfl | go_num, below_drewN HBB.out _, HN9.out⟩
       case measure => simp [intOf]; omega
      ·have hn9 := HNX.out
       rw [if_pos g1, if_neg g2, if_pos g1, if_neg g2] at hn9
       have d1 : (s + a == q) = true := by simpa using g1
       have d2 : (b + a == q') = false := beq_false_of_ne g2
       have HN9 := Lib.hid hn9
       clear hn9 HNX HAA g1 g2
       go_wp2
       go_roundw
       case rel => exact ⟨i + 1, k, z + a, 0, b + a, by omega, by omega, rfl, rfl, rfl, by first | rfl | go_num, by first | rfl | go_num, below_drewN HBB.out _, HN9.out⟩
       case measure => simp [intOf]; omega
     ·by_cases g2 : b + a = q'
      ·have hn9 := HNX.out
       rw [if_neg g1, if_pos g2, if_neg g1, if_pos g2] at hn9
       have d1 : (s + a == q) = false := beq_false_of_ne g1
       have d2 : (b + a == q') = true := by simpa using g2
       have HN9 := Lib.hid hn9
       clear hn9 HNX HAA g1 g2
       go_wp2
       go_roundw
       case rel => exact ⟨i, k + 1, z + a, s + a, 0, by omega, by omega, rfl, rfl, rfl, by first | rfl | go_num, by first | rfl | go_num, below_drewN HBB.out _, HN9.out⟩
       case measure => simp [intOf]; omega
      ·exact absurd HAA.out (by rintro (h | h); exact g1 h; exact g2 h)
    ·have dp : decide (p < p') = false := decide_eq_false hp
     have HST := Lib.hid (hst (fun h => hp h.2.2))
     have HBB := Lib.hid hR.out.1
     clear hnx hst hR hc1 hc2 hil hkl hq1 hq2 hsi hbi hs0 hb0 hzb hp hb1 hb2
     go_wp2_with fail
     go_quiet (fail)
     go_wp2
     go_ret
     exact ⟨z, rfl, HST.out, below_drewN HBB.out _⟩
   ·have k2 : ¬ (k : Int) < (m' : Int) := by omega
    have HST := Lib.hid (hR.out.2.stop HS.out HD.out (fun h => by have := h.2.1; have := HMN.out; omega))
    have HBB := Lib.hid hR.out.1
    clear hR
    go_wp2_with fail
    go_quiet (fail)
    go_wp2
    go_ret
    exact ⟨z, rfl, HST.out, below_drewN HBB.out _⟩
  ·have i2 : ¬ (i : Int) < (m : Int) := by omega
   have HST := Lib.hid (hR.out.2.stop HS.out HD.out (fun h => by have := h.1; have := HLN.out; omega))
   have HBB := Lib.hid hR.out.1
   clear hR
   go_wp2_with fail
   go_quiet (fail)
   go_wp2
   go_ret
   exact ⟨z, rfl, HST.out, below_drewN HBB.out _⟩

end Go.Proofs.YtjajigkacccdgaaGreat

namespace Go.Proofs.YtjajigkacccdgaaGreat
set_option linter.unusedVariables false
set_option linter.unusedSimpArgs false
open Go.RowKit
open Wd




theorem CsAt.one {w : World} {g : Nat} {t : TypeId} {A1 : Option Addr} {n1 c1 : Nat} {l1 : List (Int × Int)} (h : Blk w g t #[.slice A1 n1 c1]) (h1 : StAt w A1 n1 l1) : CsAt w (some ⟨g, 0, none⟩) 1 [l1] := by
 refine ⟨rfl, fun _ => ⟨g, 0, rfl, h.lt, fun j hj => ?_⟩⟩
 obtain rfl : j = 0 := by omega
 exact ⟨A1, n1, c1, h.cell 0, h1⟩

end Go.Proofs.YtjajigkacccdgaaGreat

namespace Go.Proofs.YtjajigkacccdgaaGreat
set_option linter.unusedVariables false
set_option linter.unusedSimpArgs false
open Go.RowKit
open Wd











namespace St

end St
end Go.Proofs.YtjajigkacccdgaaGreat
namespace Go.Proofs.YtjajigkacccdgaaGreat
set_option linter.unusedVariables false
set_option linter.unusedSimpArgs false
open Go.RowKit
open Wd
end Go.Proofs.YtjajigkacccdgaaGreat
namespace Go.Proofs.YtjajigkacccdgaaGreat
set_option linter.unusedVariables false
set_option linter.unusedSimpArgs false
open Go.RowKit
open Wd
attribute [local go_sem ↓] Go.wp_at_zero Go.wp_at_succ

theorem share_all (up : Bool) (A : Option Addr) (m n c : Nat) (lv : List St.Lv) (z : Int) (aA aA' : Option Addr) (ak ac ak' ac' : Nat) (w : World) (h : LvAt w A m n lv) (hv : VL up n lv) (hq : WQ w (z : Rat) aA ak ac aA' ak' ac') (h0 : 0 ≤ z) (h1 : z ≤ totI lv) (hmn : n ≠ 0 → m ≠ 0) :
  Calls Tryz.prog 31 #[.slice A m c, .agg #[.bool (decide (((z : Int) : Rat).num < 0)), .slice aA ak ac, .bool false, .slice aA' ak' ac']] w fun e w' => ∃ B c', e = .returned (.tuple #[.slice B n c', .int .i64 0]) ∧ (n ≠ 0 → ∃ g, B = some ⟨g, 0, none⟩ ∧ QRow w' g n (castR (shAll lv n z m))) ∧ Below w.heap.size w w' := by
 by_cases hm : m = 0
 ·subst hm
  have hn : n = 0 := by
   by_cases h9 : n = 0
   ·exact h9
   ·exact absurd rfl (hmn h9)
  have hlv : lv = [] := List.eq_nil_of_length_eq_zero h.1
  subst hlv
  obtain rfl : z = 0 := by simp only [totI, List.map_nil, sumI] at h1; omega
  refine (share_nil up A n c aA aA' ak ac ak' ac' w hv.n16 hq).mono ?_
  rintro e w' ⟨rfl, hb⟩
  exact ⟨none, 0, by rw [hn], fun h9 => absurd hn h9, hb⟩
 ·refine (share_ok up A m n c lv z aA aA' ak ac ak' ac' w h hv hq h0 h1 hm).mono ?_
  rintro e w' ⟨g, rfl, h2, h3, hb⟩
  exact ⟨_, _, rfl, fun _ => ⟨g, rfl, h2⟩, hb⟩



end Go.Proofs.YtjajigkacccdgaaGreat