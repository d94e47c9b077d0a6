/-
Cost of package stack at a whole quantity. Share of package stack at a quantity above the total, and of the empty stack. The statements of layer 24: level, shares. The statements of layer 24: told. Merged stacks by their levels; levels laid anew. Plain law of StackAggregation; the argument of a statement that is a rational. The statements of layer 24: Long, stacked. The statements of layer 24: stacked. Rows of curves of the call's own; what Long tells. No statement of the seat is proved here; no conditions beyond those of each theorem.
-/
import Derived.Test.YtjajigkacccdgaaGreatTcBI
import Derived.Test.YtjajigkacccdgaaGreatTcBH
import Derived.Test.YtjajigkacccdgaaGreatTcBB
import Derived.Test.YtjajigkacccdgaaGreatTcAV
import Derived.Test.YtjajigkacccdgaaGreatTcBG
namespace Go.Proofs.YtjajigkacccdgaaGreat
set_option linter.unusedVariables false
set_option linter.unusedSimpArgs false
open Go.RowKit
open Wd

theorem prodI_bd2 {l : List (Int × Int)} {z : Int} (hok : OkQ l) (hpr : ∀ s ∈ l, -1000000 ≤ s.2 ∧ s.2 ≤ 1000000) (h0 : 0 ≤ z) {k : Nat} (hk : k < l.length) : (partI l z k * (l[k]?.getD (0, 0)).2).natAbs ≤ 16000000000000 := by
 have hr : ∀ k, k ≤ l.length → 0 ≤ restI l z k := by
  intro k
  induction k with
  | zero => intro _; exact h0
  | succ k ih =>
   intro hk
   have := ih (by omega)
   rw [restI]
   omega
 have ih := hr k (by omega)
 have hb := hok _ (getD_mem (d := (0, 0)) hk)
 have hp := hpr _ (getD_mem (d := (0, 0)) hk)
 rw [Int.natAbs_mul]
 have h2 : (partI l z k).natAbs ≤ 16000000 := by unfold partI; omega
 have h3 : (l[k]?.getD (0, 0)).2.natAbs ≤ 1000000 := by omega
 exact Nat.le_trans (Nat.mul_le_mul h2 h3) (by omega)
theorem costI_bd2 {l : List (Int × Int)} {z : Int} (hok : OkQ l) (hpr : ∀ s ∈ l, -1000000 ≤ s.2 ∧ s.2 ≤ 1000000) (h0 : 0 ≤ z) : ∀ k, k ≤ l.length → (costI l z k).natAbs ≤ 16000000000000 * k
 | 0, _ => by simp [costI]
 | k + 1, hk => by
  have ih := costI_bd2 hok hpr h0 k (by omega)
  have hp := prodI_bd2 hok hpr h0 (k := k) (by omega)
  rw [costI]
  omega
theorem VL.prI {up : Bool} {n : Nat} {lv : List St.Lv} (h : VL up n lv) : ∀ s ∈ lvQ lv, -1000000 ≤ s.2 ∧ s.2 ≤ 1000000 := fun s hs => by
 obtain ⟨x, hx, rfl⟩ := List.mem_map.1 hs
 exact h.price x hx
theorem costOK_stack {up : Bool} {n : Nat} {lv : List St.Lv} {z : Int} (hv : VL up n lv) (h0 : 0 ≤ z) : CostOK 4611686018427387904 2147483648 2 1152921504606846976 2 (lvQ lv) (z : Rat) := by
 have hl := hv.len
 have hl2 := lvQ_len lv
 refine ⟨by omega, by omega, by omega, by omega, by omega, by omega, by omega, by omega, by omega, by omega, by omega, by omega, fun k hk => ?_, fun k hk => ?_⟩
 ·have hb := costI_bd2 hv.okQ hv.prI h0 k hk
  rw [costAt_whole, Rat.num_intCast, Rat.den_intCast]
  omega
 ·have hb := prodI_bd2 hv.okQ hv.prI h0 hk
  rw [prod_whole, Rat.num_intCast, Rat.den_intCast]
  omega
theorem kcost_whole (up : Bool) (A : Option Addr) (m n c : Nat) (lv : List St.Lv) (z : Int) (aA aA' : Option Addr) (ak ac ak' ac' : Nat) (w : World) (h : LvAt w A m n lv) (hv : VL up n lv) (hq : WQ w (z : Rat) aA ak ac aA' ak' ac') (h0 : 0 ≤ z) (h1 : z ≤ totI lv) :
  Calls Tryz.prog 32 #[.slice A m c, .agg #[.bool (decide (((z : Int) : Rat).num < 0)), .slice aA ak ac, .bool false, .slice aA' ak' ac']] w (CstPost w ((costI (lvQ lv) z m : Int) : Rat)) := by
 have hz := (tot_bd lv hv.qty).2
 have hl := hv.len
 have hq2 : QAt 2147483648 2 w (decide (((z : Int) : Rat).num < 0)) aA ak ac false aA' ak' ac' (z : Rat) :=
  qat_len wok_small (by omega) (by omega) hq.1 hq.2.1 hq.2.2.1 hq.2.2.2 (by rw [Rat.num_intCast]; omega) (by rw [Rat.den_intCast]; omega)
 have hT := kcost_ok 4611686018427387904 2147483648 2 1152921504606846976 2 wok_small (by omega) up A m n c lv _ false aA aA' ak ac ak' ac' (z : Rat) w h hq2 hv (by exact_mod_cast h0) (by exact_mod_cast h1) (costOK_stack hv h0)
 rw [costAt_whole] at hT
 exact hT

end Go.Proofs.YtjajigkacccdgaaGreat

namespace Go.Proofs.YtjajigkacccdgaaGreat
set_option linter.unusedVariables false
set_option linter.unusedSimpArgs false
open Go.RowKit
open Wd



set_option maxRecDepth 100000 in
set_option maxHeartbeats 4000000 in
theorem share_nil (up : Bool) (A : Option Addr) (n c : Nat) (aA aA' : Option Addr) (ak ac ak' ac' : Nat) (w : World) (hn : n ≤ 16) (hq : WQ w ((0 : Int) : Rat) aA ak ac aA' ak' ac') :
  Calls Tryz.prog 31 #[.slice A 0 c, .agg #[.bool (decide (((0 : Int) : Rat).num < 0)), .slice aA ak ac, .bool false, .slice aA' ak' ac']] w fun e w' => e = .returned (.tuple #[.slice none 0 0, .int .i64 0]) ∧ Below w.heap.size w w' := by
 have hl : LvAt w A 0 n [] := ⟨rfl, fun h => absurd rfl h⟩
 have hv : VL up n [] := ⟨by simp, by simp, hn, by simp, by simp, by simp, by simp⟩
 have HF0 := Lib.hid (fun W (hW : Below w.heap.size w W) => fill_ok 4611686018427387904 1152921504606846976 2 wok_small (by omega) (by omega) (by omega) (by omega) (by omega) (by omega) (by omega) up A 0 n c [] _ false aA aA' ak ac ak' ac' ((0 : Int) : Rat) W (hl.below hW) ((hq.below hW).at (by rw [Rat.num_intCast]; omega) (by rw [Rat.den_intCast]; omega)) hv (by exact_mod_cast Int.le_refl 0) (Rat.le_refl))
 generalize ((0 : Int) : Rat) = zq at *
 clear hl hv hq
 go_enter Tryz.func31, Tryz.ntmps31
 go_wp2_with fail
 obtain ⟨hB0, hBW, hsz⟩ := pre1 w 42 #[.bool (decide (zq.num < 0)), .slice aA ak ac, .bool false, .slice aA' ak' ac']
 generalize w.alloc (.cells #[.bool (decide (zq.num < 0)), .slice aA ak ac, .bool false, .slice aA' ak' ac'] 42) = W at *
 have HSZ := Lib.hid hsz
 clear hsz
 refine (HF0.out W hBW).mono ?_
 rintro e w1 ⟨gt, ts, rfl, -, -, -, hb1⟩
 have HB1 := Lib.hid (hBW.trans (hb1.mono hBW.size))
 clear hb1 hBW
 go_wp2
 go_ret2
 exact ⟨rfl, HB1.out⟩

end Go.Proofs.YtjajigkacccdgaaGreat

namespace Go.Proofs.YtjajigkacccdgaaGreat
set_option linter.unusedVariables false
set_option linter.unusedSimpArgs false
open Go.RowKit
open Wd


end Go.Proofs.YtjajigkacccdgaaGreat
namespace Go.Proofs.YtjajigkacccdgaaGreat
set_option linter.unusedVariables false
set_option linter.unusedSimpArgs false
open Go.RowKit
open Wd














end Go.Proofs.YtjajigkacccdgaaGreat
namespace Go.Proofs.YtjajigkacccdgaaGreat
set_option linter.unusedVariables false
set_option linter.unusedSimpArgs false
open Go.RowKit
open Wd


theorem IsAt.lit {w : World} {g : Nat} {xs : List Int} {n : Nat} {cs : Array Value} (h : Blk w g 2 cs) (hc : cs = (xs.map (Value.int .i64)).toArray) (hl : xs.length = n) : IsAt w (some ⟨g, 0, none⟩) n xs := by
 subst hc
 exact IRow.at (show IRow w g xs from h) hl
theorem CsAt.two {w : World} {g : Nat} {t : TypeId} {A1 A2 : Option Addr} {n1 c1 n2 c2 : Nat} {l1 l2 : List (Int × Int)} (h : Blk w g t #[.slice A1 n1 c1, .slice A2 n2 c2]) (h1 : StAt w A1 n1 l1) (h2 : StAt w A2 n2 l2) : CsAt w (some ⟨g, 0, none⟩) 2 [l1, l2] := by
 refine ⟨rfl, fun _ => ⟨g, 0, rfl, h.lt, fun j hj => ?_⟩⟩
 obtain rfl | rfl : j = 0 ∨ j = 1 := by omega
 ·exact ⟨A1, n1, c1, h.cell 0, h1⟩
 ·exact ⟨A2, n2, c2, h.cell 1, h2⟩




















theorem fits_lit {xs : List Int} (h : ∀ x ∈ xs, -100 ≤ x ∧ x ≤ 100) : ∀ i : Nat, Fits (xs[i]?.getD 0) := fun i => by
 by_cases hi : i < xs.length
 ·have := h _ (getD_mem (d := 0) hi)
  unfold Fits
  omega
 ·rw [List.getElem?_eq_none (by omega)]
  unfold Fits
  simp

end Go.Proofs.YtjajigkacccdgaaGreat

namespace Go.Proofs.YtjajigkacccdgaaGreat
set_option linter.unusedVariables false
set_option linter.unusedSimpArgs false
open Go.RowKit
open Wd

namespace St
theorem sum_pricesF (f : Int → Bool) : ∀ {T : List Tr} {ps : List Int}, ps.Nodup → (∀ t ∈ T, t.2.2 ∈ ps) → sumI (ps.map fun p => if f p then qty T p else 0) = sumI (T.map fun t => if f t.2.2 then t.2.1 else 0)
 | [], ps, _, _ => by
  refine (sumI_zero fun y hy => ?_)
  obtain ⟨x, _, rfl⟩ := List.mem_map.1 hy
  split <;> rfl
 | t :: T, ps, hn, h => by
  have ih := sum_pricesF f hn fun s hs => h s (List.mem_cons_of_mem _ hs)
  have e : (ps.map fun p => if f p then qty (t :: T) p else 0) = ps.map fun p => (if t.2.2 = p then (if f t.2.2 then t.2.1 else 0) else 0) + (if f p then qty T p else 0) := by
   refine List.map_congr_left fun p _ => ?_
   rw [qty]
   by_cases hp : t.2.2 = p
   ·subst hp
    cases f t.2.2 <;> simp
   ·rw [if_neg hp, if_neg hp]
    split <;> omega
  rw [e, sumI_map_add (fun p => if t.2.2 = p then (if f t.2.2 then t.2.1 else 0) else 0) (fun p => if f p then qty T p else 0), ih]
  have := sumI_one (fun p : Int => p) (if f t.2.2 then t.2.1 else 0) (l := ps) (p := t.2.2) (by simpa using hn) (by simpa using h t (List.mem_cons_self ..))
  rw [this, List.map_cons, sumI]
theorem sumF_tri (f : Int → Bool) : ∀ (ls : List (List (Int × Int))) (k : Nat), sumI ((tri k ls).map fun t => if f t.2.2 then t.2.1 else 0) = sumI (ls.map fun l => sumI (l.map fun s => if f s.2 then s.1 else 0))
 | [], _ => rfl
 | l :: ls, k => by
  rw [tri, List.map_append, sumI_app, sumF_tri f ls (k + 1), List.map_cons, sumI, List.map_map]
  rfl
theorem sumF_lv (f : Int → Bool) {up : Bool} {n : Nat} {ls : List (List (Int × Int))} {lv : List Lv} (h : IsLv up n (tri 0 ls) lv) : sumI (lv.map fun x => if f x.1 then x.2.1 else 0) = sumI (ls.map fun l => sumI (l.map fun s => if f s.2 then s.1 else 0)) := by
 have e : (lv.map fun x => if f x.1 then x.2.1 else 0) = (lv.map (·.1)).map fun p => if f p then qty (tri 0 ls) p else 0 := by
  rw [List.map_map]
  refine List.map_congr_left fun x hx => ?_
  simp only [Function.comp]
  rw [(h.2.2 x hx).1]
 rw [e, sum_pricesF f h.nodup fun t ht => (h.2.1 t.2.2).2 ⟨t, ht, rfl⟩, sumF_tri]
end St
/-- What the levels hold on one side of a price, without and with the level at it. -/
def lvL (side : Int) (q : Rat) (lv : List St.Lv) : Int := sumI (lv.map fun x => if cmpQ (x.1 : Rat) q = side then x.2.1 else 0)
def lvM (side : Int) (q : Rat) (lv : List St.Lv) : Int := sumI (lv.map fun x => if cmpQ (x.1 : Rat) q = side ∨ cmpQ (x.1 : Rat) q = 0 then x.2.1 else 0)
theorem agg_lv {side : Int} {q : Rat} {up : Bool} {n : Nat} {ls : List (List (Int × Int))} {lv : List St.Lv} (h : St.IsLv up n (St.tri 0 ls) lv) : lvL side q lv = sumI (ls.map (wlL side q)) ∧ lvM side q lv = sumI (ls.map (wlM side q)) := by
 have h1 := St.sumF_lv (fun p => decide (cmpQ (p : Rat) q = side)) h
 have h2 := St.sumF_lv (fun p => decide (cmpQ (p : Rat) q = side ∨ cmpQ (p : Rat) q = 0)) h
 simp only [decide_eq_true_eq] at h1 h2
 exact ⟨h1, h2⟩



theorem sumw_snoc (f : List (Int × Int) → Int) {ls : List (List (Int × Int))} {k : Nat} (hk : k < ls.length) : sumI ((ls.take (k + 1)).map f) = sumI ((ls.take k).map f) + f (ls[k]?.getD []) := by
 have e : ls.take (k + 1) = ls.take k ++ [ls[k]?.getD []] := by rw [List.take_add_one, List.getElem?_eq_getElem hk]; rfl
 rw [e, List.map_append]
 exact sumI_snoc _ _
theorem sumw_bd (f : List (Int × Int) → Int) : ∀ (ls : List (List (Int × Int))), (∀ l ∈ ls, 0 ≤ f l ∧ f l ≤ 3000000) → 0 ≤ sumI (ls.map f) ∧ sumI (ls.map f) ≤ 3000000 * (ls.length : Int)
 | [], _ => by simp [sumI]
 | l :: ls, h => by
  have h1 := h l (List.mem_cons_self ..)
  have h2 := sumw_bd f ls fun y hy => h y (List.mem_cons_of_mem _ hy)
  rw [List.map_cons, sumI, List.length_cons]
  omega

end Go.Proofs.YtjajigkacccdgaaGreat
namespace Go.Proofs.YtjajigkacccdgaaGreat
set_option linter.unusedVariables false
set_option linter.unusedSimpArgs false
open Go.RowKit
open Wd
def longC (ls : List (List (Int × Int))) : Bool := decide (40 < ls.length) || ls.any fun l => decide (20 < l.length)

set_option maxRecDepth 100000 in
set_option maxHeartbeats 1000000 in
theorem long24_any (A : Option Addr) (n c : Nat) (ls : List (List (Int × Int))) (w : World) (h : CsAt w A n ls) :
  Calls Tryz.prog 12 #[.slice A n c] w fun e w' => e = .returned (.bool (longC ls)) ∧ Below w.heap.size w w' := by
 have HX := Lib.hid h
 have HLN := Lib.hid h.1
 by_cases h40 : 40 < n
 ·have d1 : decide ((40 : Int) < (n : Int)) = true := by simp; omega
  have HE : Hid (longC ls = true) := by
   show longC ls = true
   unfold longC
   rw [h.1]
   simp [h40]
  clear h
  go_enter Tryz.func12, Tryz.ntmps12
  go_wp2
  go_ret
  exact ⟨by rw [HE.out]; rfl, Below.refl _ _⟩
 ·have d1 : decide ((40 : Int) < (n : Int)) = false := by simp; omega
  have HE : Hid (longC ls = ls.any fun l => decide (20 < l.length)) := by
   show longC ls = _
   unfold longC
   rw [h.1]
   simp [h40]
  clear h
  go_enter Tryz.func12, Tryz.ntmps12
  go_wp2_with fail
  go_loopw [3] (fun t wr => ∃ k : Nat, k ≤ n ∧ t = .int .i64 k ∧ Hid (Below w.heap.size w wr ∧ (ls.take k).any (fun l => decide (20 < l.length)) = false)) (fun t _ => n - (intOf t).toNat)
  case atStart => exact ⟨0, Nat.zero_le _, rfl, Below.refl _ _, by simp⟩
  case round =>
   obtain ⟨k, hk, rfl, hR⟩ := hrel
   by_cases hlt : k < n
   ·obtain ⟨b, o, rfl, hb, hc⟩ := HX.out.2 (by omega)
    obtain ⟨A', n', c', hcell, hst⟩ := hc k hlt
    have hcell := (hR.out.1.cell (p := ⟨b, o + k, none⟩) hb).trans hcell
    have hl : (ls[k]?.getD []).length = n' := hst.1
    have hkl : k < ls.length := by rw [HLN.out]; exact hlt
    have htk : ls.take (k + 1) = ls.take k ++ [ls[k]?.getD []] := by rw [List.take_add_one, List.getElem?_eq_getElem hkl]; rfl
    have hany : (ls.take (k + 1)).any (fun l => decide (20 < l.length)) = decide (20 < n') := by rw [htk, List.any_append, hR.out.2]; simp [hl]
    have i1 : (0 : Int) ≤ (k : Int) := by omega
    have i2 : (k : Int) < (n : Int) := by omega
    have HB := Lib.hid hR.out.1
    have HA := Lib.hid hany
    by_cases h20 : 20 < n'
    ·have d2 : decide ((20 : Int) < (n' : Int)) = true := by simp; omega
     have HT : Hid (longC ls = true) := by
      show longC ls = true
      rw [HE.out]
      have := HA.out
      rw [decide_eq_true h20, List.any_eq_true] at this
      obtain ⟨x, hx, hx2⟩ := this
      exact List.any_eq_true.2 ⟨x, List.mem_of_mem_take hx, hx2⟩
     clear hR hst hc hl htk hany
     go_wp2
     go_ret
     exact ⟨by rw [HT.out]; rfl, HB.out⟩
    ·have d2 : decide ((20 : Int) < (n' : Int)) = false := by simp; omega
     have HF : Hid ((ls.take (k + 1)).any (fun l => decide (20 < l.length)) = false) := by
      show _ = _
      rw [HA.out]
      simp [h20]
     clear hR hst hc hl htk hany
     go_wp2
     go_roundw
     case rel => exact ⟨k + 1, by omega, by go_num, HB.out, HF.out⟩
     case measure => simp [intOf]; omega
   ·obtain rfl : k = n := by omega
    have HT : Hid (longC ls = false) := by
     show longC ls = false
     rw [HE.out]
     have := hR.out.2
     rwa [List.take_of_length_le (by rw [HLN.out]; omega)] at this
    have HB := Lib.hid hR.out.1
    clear hR
    go_wp2
    go_ret
    exact ⟨by rw [HT.out]; rfl, HB.out⟩

end Go.Proofs.YtjajigkacccdgaaGreat
namespace Go.Proofs.YtjajigkacccdgaaGreat
set_option linter.unusedVariables false
set_option linter.unusedSimpArgs false
open Go.RowKit
open Wd
/-- What a merge returns. -/
def MgR (up : Bool) (n : Nat) (ls : List (List (Int × Int))) (w : World) (e : Ending) (w' : World) : Prop :=
 ∃ (A : Option Addr) (m cap : Nat) (pl : Int) (lv : List St.Lv), e = .returned (.tuple #[.slice A m cap, .int .i64 pl, .int .i64 (ckC up ls).2]) ∧ LvAt w' A m n lv ∧ ((ckC up ls).2 = 0 → St.IsLv up n (St.tri 0 ls) lv ∧ VL up n lv) ∧ ((ckC up ls).2 ≠ 0 → m = 0) ∧ Below w.heap.size w w'

theorem merge_offers_any (A : Option Addr) (n c : Nat) (ls : List (List (Int × Int))) (w : World) (h : CsAt w A n ls) (hs : ∀ l ∈ ls, l.length ≤ 1000000000000) :
  Calls Tryz.prog 16 #[.slice A n c] w (MgR true n ls w) := by
 by_cases hc : (ckC true ls).2 = 0
 ·refine (merge_offers_ok A n c ls w h hs hc).mono ?_
  rintro e w' ⟨D, mg, cap, rfl, h1, h2, h3, h4⟩
  have hn := h.1
  subst hn
  refine ⟨some ⟨mg, 0, none⟩, D.length, cap, 0, lvOf ls.length (St.tri 0 ls) D, by rw [hc], h3.at, fun _ => ⟨lvOf_is h1 h2, lv_valid hc (lvOf_is h1 h2)⟩, fun h0 => absurd hc h0, h4⟩
 ·refine (merge_offers_no A n c ls w h hs hc).mono ?_
  rintro e w' ⟨rfl, h4⟩
  exact ⟨none, 0, 0, _, [], rfl, ⟨rfl, fun h0 => absurd rfl h0⟩, fun h0 => absurd h0 hc, fun _ => rfl, h4⟩

theorem merge_bids_any (A : Option Addr) (n c : Nat) (ls : List (List (Int × Int))) (w : World) (h : CsAt w A n ls) (hs : ∀ l ∈ ls, l.length ≤ 1000000000000) :
  Calls Tryz.prog 17 #[.slice A n c] w (MgR false n ls w) := by
 by_cases hc : (ckC false ls).2 = 0
 ·refine (merge_bids_ok A n c ls w h hs hc).mono ?_
  rintro e w' ⟨D, mg, cap, rfl, h1, h2, h3, h4⟩
  have hn := h.1
  subst hn
  refine ⟨some ⟨mg, 0, none⟩, D.length, cap, 0, lvOf ls.length (St.tri 0 ls) D, by rw [hc], h3.at, fun _ => ⟨lvOf_is h1 h2, lv_valid hc (lvOf_is h1 h2)⟩, fun h0 => absurd hc h0, h4⟩
 ·refine (merge_bids_no A n c ls w h hs hc).mono ?_
  rintro e w' ⟨rfl, h4⟩
  exact ⟨none, 0, 0, _, [], rfl, ⟨rfl, fun h0 => absurd rfl h0⟩, fun h0 => absurd h0 hc, fun _ => rfl, h4⟩


end Go.Proofs.YtjajigkacccdgaaGreat
namespace Go.Proofs.YtjajigkacccdgaaGreat
set_option linter.unusedVariables false
set_option linter.unusedSimpArgs false
open Go.RowKit
open Wd
theorem longC_no {ls : List (List (Int × Int))} (h : longC ls = false) : ls.length ≤ 40 ∧ ∀ l ∈ ls, l.length ≤ 20 := by
 unfold longC at h
 rw [Bool.or_eq_false_iff] at h
 refine ⟨by have := h.1; simp at this; exact this, fun l hl => ?_⟩
 have := List.any_eq_false.1 h.2 l hl
 simpa using this
theorem longC_small {ls : List (List (Int × Int))} (h : longC ls = false) : ∀ l ∈ ls, l.length ≤ 1000000000000 := fun l hl => by have := (longC_no h).2 l hl; omega




end Go.Proofs.YtjajigkacccdgaaGreat