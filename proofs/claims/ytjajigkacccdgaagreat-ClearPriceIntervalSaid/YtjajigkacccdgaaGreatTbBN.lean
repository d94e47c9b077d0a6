/-
Rows of curves of the call's own; what Long tells. check and balances of package clear. No statement of the seat is proved here; no conditions beyond those of each theorem.
-/
import Derived.Test.YtjajigkacccdgaaGreatTbBM
import Derived.Test.YtjajigkacccdgaaGreatTbBL
import Derived.Test.YtjajigkacccdgaaGreatTbBJ
namespace Go.Proofs.YtjajigkacccdgaaGreat
set_option linter.unusedVariables false
set_option linter.unusedSimpArgs false
open Go.RowKit
open Wd

theorem longC_no {ls : List (List (Int × Int))} (h : longC ls = false) : ls.length ≤ 40 ∧ ∀ l ∈ ls, l.length ≤ 20 := by
 unfold longC at h
 rw [Bool.or_eq_false_iff] at h
 refine ⟨by have := h.1; simp at this; exact this, fun l hl => ?_⟩
 have := List.any_eq_false.1 h.2 l hl
 simpa using this
theorem longC_small {ls : List (List (Int × Int))} (h : longC ls = false) : ∀ l ∈ ls, l.length ≤ 1000000000000 := fun l hl => by have := (longC_no h).2 l hl; omega




end Go.Proofs.YtjajigkacccdgaaGreat
namespace Go.Proofs.YtjajigkacccdgaaGreat
set_option linter.unusedVariables false
set_option linter.unusedSimpArgs false
open Go.RowKit
open Wd
/-- The error of offers and bids. -/
def ckB (os bs : List (List (Int × Int))) : Int := if 5 < os.length ∨ 6 < bs.length then 5 else if (ckF true 0 os).2 ≠ 0 then (ckF true 0 os).2 else (ckF false 0 bs).2

theorem ckF_zero_iff {up : Bool} {ls : List (List (Int × Int))} {k : Nat} : (ckF up k ls).2 = 0 ↔ ∀ l ∈ ls, chk up l = 0 := ⟨fun h => ckF_good h, fun h => ckF_zero h⟩
theorem ckB_iff {os bs : List (List (Int × Int))} : ckB os bs = 0 ↔ os.length ≤ 5 ∧ bs.length ≤ 6 ∧ (∀ l ∈ os, chk true l = 0) ∧ ∀ l ∈ bs, chk false l = 0 := by
 unfold ckB
 split
 ·constructor
  ·intro h; simp at h
  ·rintro ⟨h1, h2, _⟩; omega
 ·split
  ·rename_i h1 h2
   constructor
   ·intro h; exact absurd h h2
   ·rintro ⟨_, _, h3, _⟩; exact absurd (ckF_zero h3) h2
  ·rename_i h1 h2
   rw [ckF_zero_iff]
   constructor
   ·intro h
    exact ⟨by omega, by omega, ckF_zero_iff.1 (Classical.not_not.1 h2), h⟩
   ·rintro ⟨_, _, _, h⟩; exact h
theorem ckF_skip {up : Bool} {ls : List (List (Int × Int))} {k : Nat} (hk : k < ls.length) (h : chk up (ls[k]?.getD []) = 0) : (ckF up k (ls.drop k)).2 = (ckF up (k + 1) (ls.drop (k + 1))).2 := by
 rw [dropL hk, ckF, if_neg (by simpa using h)]
theorem ckF_hit {up : Bool} {ls : List (List (Int × Int))} {k : Nat} (hk : k < ls.length) (h : chk up (ls[k]?.getD []) ≠ 0) : (ckF up k (ls.drop k)).2 = chk up (ls[k]?.getD []) := by
 rw [dropL hk, ckF, if_pos h]

def ckX (os bs : List (List (Int × Int))) : Int := if (ckF true 0 os).2 ≠ 0 then (ckF true 0 os).2 else (ckF false 0 bs).2

set_option maxRecDepth 100000 in
set_option maxHeartbeats 4000000 in
theorem ccheck_any (A B : Option Addr) (n c m d : Nat) (os bs : List (List (Int × Int))) (w : World) (h : CsAt w A n os) (h' : CsAt w B m bs) (hs : ∀ l ∈ os, l.length ≤ 1000000000000) (ht : ∀ l ∈ bs, l.length ≤ 1000000000000) :
  Calls Tryz.prog 104 #[.slice A n c, .slice B m d] w fun e w' => e = .returned (.int .i64 (ckB os bs)) ∧ Below w.heap.size w w' := by
 have HX := Lib.hid h
 have HY := Lib.hid h'
 have HLN := Lib.hid h.1
 have HMN := Lib.hid h'.1
 have HS := Lib.hid hs
 have HT := Lib.hid ht
 by_cases h5 : 5 < n
 ·have e : ckB os bs = 5 := by unfold ckB; rw [if_pos (by rw [h.1]; exact Or.inl h5)]
  have d5 : decide ((5 : Int) < (n : Int)) = true := by simp; omega
  rw [e]
  clear h h' hs ht e
  go_enter Tryz.func104, Tryz.ntmps104
  go_wp2
  go_ret
  exact ⟨rfl, Below.refl _ _⟩
 ·have d5 : decide ((5 : Int) < (n : Int)) = false := by simp; omega
  by_cases h6 : 6 < m
  ·have e : ckB os bs = 5 := by unfold ckB; rw [if_pos (by rw [h'.1]; exact Or.inr h6)]
   have d6 : decide ((6 : Int) < (m : Int)) = true := by simp; omega
   rw [e]
   clear h h' hs ht e
   go_enter Tryz.func104, Tryz.ntmps104
   go_wp2
   go_ret
   exact ⟨rfl, Below.refl _ _⟩
  ·have d6 : decide ((6 : Int) < (m : Int)) = false := by simp; omega
   have HE0 : Hid (ckB os bs = ckX os bs) := by
    show ckB os bs = ckX os bs
    unfold ckB ckX
    rw [if_neg (by rw [h.1, h'.1]; omega)]
   clear h h' hs ht
   go_enter Tryz.func104, Tryz.ntmps104
   go_wp2_with fail
   go_loopw [21] (fun t wr => ∃ k : Nat, k ≤ n ∧ t = .int .i64 k ∧ Hid (Below w.heap.size w wr ∧ (ckF true 0 os).2 = (ckF true k (os.drop k)).2)) (fun t _ => n - (intOf t).toNat)
   case atStart => exact ⟨0, Nat.zero_le _, rfl, Below.refl _ _, by simp⟩
   case round =>
    obtain ⟨k, hk, rfl, hR⟩ := hrel
    by_cases hlt : k < n
    ·obtain ⟨b, o, rfl, hb, hc⟩ := HX.out.2 (by omega)
     obtain ⟨A', n', c', hcell, hst⟩ := hc k hlt
     have hcl := (hR.out.1.cell (p := ⟨b, o + k, none⟩) hb).trans hcell
     have hkl : k < os.length := by rw [HLN.out]; exact hlt
     have hmem := getD_mem (d := ([] : List (Int × Int))) hkl
     have hCK := checkOffer_any A' n' c' (os[k]?.getD []) wr (hst.below hR.out.1) (by rw [← hst.1]; exact HS.out _ hmem)
     have hsk := ckF_skip (up := true) hkl
     have hht := ckF_hit (up := true) hkl
     generalize chk true (os[k]?.getD []) = x at *
     have k1 : (0 : Int) ≤ (k : Int) := by omega
     have k2 : (k : Int) < (n : Int) := by omega
     have HCK := Lib.hid hCK
     have HR := Lib.hid hR.out
     have HSK := Lib.hid hsk
     have HHT := Lib.hid hht
     clear hc hcell hst hkl hmem hCK hR hsk hht
     go_wp2_with fail
     refine HCK.out.mono ?_
     rintro e v1 ⟨rfl, hb1⟩
     have HV1 := Lib.hid (HR.out.1.trans (hb1.mono HR.out.1.size))
     clear hb1 HCK
     by_cases hx : x = 0
     ·have dx : (x != 0) = false := by simpa using hx
      have HE := Lib.hid (HR.out.2.trans (HSK.out hx))
      clear HSK HHT HR hx
      go_wp2
      go_roundw
      case rel => exact ⟨k + 1, by omega, by go_num, HV1.out, HE.out⟩
      case measure => simp [intOf]; omega
     ·have dx : (x != 0) = true := by simpa using hx
      have HE := Lib.hid (HR.out.2.trans (HHT.out hx))
      clear HSK HHT HR
      go_wp2
      go_ret
      exact ⟨by rw [HE0.out]; unfold ckX; rw [HE.out, if_pos hx]; rfl, HV1.out⟩
    ·obtain rfl : k = n := by omega
     have he : (ckF true 0 os).2 = 0 := by
      rw [hR.out.2, List.drop_eq_nil_of_le (by rw [HLN.out]; exact Nat.le_refl _)]
      rfl
     have HZ := Lib.hid he
     have HBA := Lib.hid hR.out.1
     clear he hR
     go_wp2_with fail
     go_loopw [33] (fun t wr => ∃ k : Nat, k ≤ m ∧ t = .int .i64 k ∧ Hid (Below w.heap.size w wr ∧ (ckF false 0 bs).2 = (ckF false k (bs.drop k)).2)) (fun t _ => m - (intOf t).toNat)
     case atStart => exact ⟨0, Nat.zero_le _, rfl, HBA.out, by simp⟩
     case round =>
      obtain ⟨k, hk, rfl, hR⟩ := hrel
      by_cases hlt : k < m
      ·obtain ⟨b, o, rfl, hb, hc⟩ := HY.out.2 (by omega)
       obtain ⟨A', n', c', hcell, hst⟩ := hc k hlt
       have hcl := (hR.out.1.cell (p := ⟨b, o + k, none⟩) hb).trans hcell
       have hkl : k < bs.length := by rw [HMN.out]; exact hlt
       have hmem := getD_mem (d := ([] : List (Int × Int))) hkl
       have hCK := checkBid_any A' n' c' (bs[k]?.getD []) wr (hst.below hR.out.1) (by rw [← hst.1]; exact HT.out _ hmem)
       have hsk := ckF_skip (up := false) hkl
       have hht := ckF_hit (up := false) hkl
       generalize chk false (bs[k]?.getD []) = x at *
       have k1 : (0 : Int) ≤ (k : Int) := by omega
       have k2 : (k : Int) < (m : Int) := by omega
       have HCK := Lib.hid hCK
       have HR := Lib.hid hR.out
       have HSK := Lib.hid hsk
       have HHT := Lib.hid hht
       clear hc hcell hst hkl hmem hCK hR hsk hht
       go_wp2_with fail
       refine HCK.out.mono ?_
       rintro e v1 ⟨rfl, hb1⟩
       have HV1 := Lib.hid (HR.out.1.trans (hb1.mono HR.out.1.size))
       clear hb1 HCK
       by_cases hx : x = 0
       ·have dx : (x != 0) = false := by simpa using hx
        have HE := Lib.hid (HR.out.2.trans (HSK.out hx))
        clear HSK HHT HR hx
        go_wp2
        go_roundw
        case rel => exact ⟨k + 1, by omega, by go_num, HV1.out, HE.out⟩
        case measure => simp [intOf]; omega
       ·have dx : (x != 0) = true := by simpa using hx
        have HE := Lib.hid (HR.out.2.trans (HHT.out hx))
        clear HSK HHT HR
        go_wp2
        go_ret
        exact ⟨by rw [HE0.out]; unfold ckX; rw [HZ.out, if_neg (by simp), HE.out]; rfl, HV1.out⟩
      ·obtain rfl : k = m := by omega
       have he : (ckF false 0 bs).2 = 0 := by
        rw [hR.out.2, List.drop_eq_nil_of_le (by rw [HMN.out]; exact Nat.le_refl _)]
        rfl
       have HE := Lib.hid he
       have HB9 := Lib.hid hR.out.1
       clear he hR
       go_wp2
       go_ret
       exact ⟨by rw [HE0.out]; unfold ckX; rw [HZ.out, if_neg (by simp), HE.out]; rfl, HB9.out⟩

/-- What the curves of one side want together. -/
def wsL (side : Int) (q : Rat) (ls : List (List (Int × Int))) : Int := sumI (ls.map (wlL side q))
def wsM (side : Int) (q : Rat) (ls : List (List (Int × Int))) : Int := sumI (ls.map (wlM side q))
def balB (os bs : List (List (Int × Int))) (q : Rat) : Bool := decide (wsL (-1) q os ≤ wsM 1 q bs) && decide (wsL 1 q bs ≤ wsM (-1) q os)
theorem ws_snoc (side : Int) (q : Rat) {ls : List (List (Int × Int))} {k : Nat} (hk : k < ls.length) : wsL side q (ls.take (k + 1)) = wsL side q (ls.take k) + wlL side q (ls[k]?.getD []) ∧ wsM side q (ls.take (k + 1)) = wsM side q (ls.take k) + wlM side q (ls[k]?.getD []) :=
 ⟨sumw_snoc _ hk, sumw_snoc _ hk⟩
theorem wl_bd3 {up : Bool} {l : List (Int × Int)} (h : chk up l = 0) (side : Int) (q : Rat) : (0 ≤ wlL side q l ∧ wlL side q l ≤ 3000000) ∧ (0 ≤ wlM side q l ∧ wlM side q l ≤ 3000000) := by
 have h2 := chk_ok h
 have h3 := wl_bd (l := l) side q h2.2.2.2
 have h4 := h2.2.1
 omega
theorem ws_bd {up : Bool} {ls : List (List (Int × Int))} (h : ∀ l ∈ ls, chk up l = 0) (side : Int) (q : Rat) : (0 ≤ wsL side q ls ∧ wsL side q ls ≤ 3000000 * (ls.length : Int)) ∧ (0 ≤ wsM side q ls ∧ wsM side q ls ≤ 3000000 * (ls.length : Int)) :=
 ⟨sumw_bd _ ls fun l hl => (wl_bd3 (h l hl) side q).1, sumw_bd _ ls fun l hl => (wl_bd3 (h l hl) side q).2⟩

set_option maxRecDepth 100000 in
set_option maxHeartbeats 4000000 in
theorem balances_any (A B : Option Addr) (n c m d : Nat) (os bs : List (List (Int × Int))) (an an' : Bool) (aA aA' : Option Addr) (ak ac ak' ac' : Nat) (q : Rat) (w : World) (h : CsAt w A n os) (h' : CsAt w B m bs) (hq : QArg w an aA ak ac an' aA' ak' ac' q) (ho : ∀ l ∈ os, chk true l = 0) (hb : ∀ l ∈ bs, chk false l = 0) (hn : n ≤ 1000) (hm : m ≤ 1000) :
  Calls Tryz.prog 110 #[.slice A n c, .slice B m d, .agg #[.bool an, .slice aA ak ac, .bool an', .slice aA' ak' ac']] w fun e w' => e = .returned (.bool (balB os bs q)) ∧ Below w.heap.size w w' := by
 have HX := Lib.hid h
 have HY := Lib.hid h'
 have HLN := Lib.hid h.1
 have HMN := Lib.hid h'.1
 have HQ := Lib.hid hq
 have HCA := Lib.hid ho
 have HCB := Lib.hid hb
 clear h h' hq ho hb
 go_enter Tryz.func110, Tryz.ntmps110
 go_wp2_with fail
 have hbx := Blk.new w 42 #[.bool an, .slice aA ak ac, .bool an', .slice aA' ak' ac']
 have hb0 : Below w.heap.size w (w.alloc (.cells #[.bool an, .slice aA ak ac, .bool an', .slice aA' ak' ac'] 42)) := (Below.refl _ _).alloc (Nat.le_refl _) _
 generalize w.alloc (.cells #[.bool an, .slice aA ak ac, .bool an', .slice aA' ak' ac'] 42) = W0 at *
 have HST := Lib.hid (And.intro hb0 hbx)
 clear hb0 hbx
 go_loopw [7, 8, 23] (fun tl tm t wr => ∃ k : Nat, k ≤ n ∧ t = .int .i64 k ∧ tl = .int .i64 (wsL (-1) q (os.take k)) ∧ tm = .int .i64 (wsM (-1) q (os.take k)) ∧ Hid (Below w.heap.size w wr ∧ Blk wr w.heap.size 42 #[.bool an, .slice aA ak ac, .bool an', .slice aA' ak' ac'])) (fun _ _ t _ => n - (intOf t).toNat)
 case atStart => exact ⟨0, Nat.zero_le _, rfl, rfl, rfl, HST.out⟩
 case round =>
  obtain ⟨k, hk, rfl, rfl, rfl, hR⟩ := hrel
  by_cases hlt : k < n
  ·obtain ⟨b, o, rfl, hb, hc⟩ := HX.out.2 (by omega)
   obtain ⟨A', n', c', hcell, hst⟩ := hc k hlt
   obtain ⟨hBW, hBX⟩ := hR.out
   have hcl := (hBW.cell (p := ⟨b, o + k, none⟩) hb).trans hcell
   have hkl : k < os.length := by rw [HLN.out]; exact hlt
   have hmem := getD_mem (d := ([] : List (Int × Int))) hkl
   have hck := HCA.out _ hmem
   have hCT := supplyAt_any A' n' c' (os[k]?.getD []) an an' aA aA' ak ac ak' ac' q wr (hst.below hBW) (HQ.out.below hBW) hck
   obtain ⟨s1, s2⟩ := ws_snoc (-1) q hkl
   have bd := ws_bd (fun l hl => HCA.out l (List.mem_of_mem_take hl) : ∀ l ∈ os.take k, chk true l = 0) (-1) q
   have bd2 := wl_bd3 hck (-1) q
   have hl2 := List.length_take_le k os
   generalize wlL (-1) q (os[k]?.getD []) = xl at *
   generalize wlM (-1) q (os[k]?.getD []) = xm at *
   generalize wsL (-1) q (os.take k) = vl at *
   generalize wsM (-1) q (os.take k) = vm at *
   have wl1 : IntKind.i64.wrap (vl + xl) = vl + xl := IntWalk.i64_in _ (by omega)
   have wl2 : IntKind.i64.wrap (vm + xm) = vm + xm := IntWalk.i64_in _ (by omega)
   obtain ⟨f0, f1, f2, f3, -, -, -, -⟩ := hBX.four
   have k1 : (0 : Int) ≤ (k : Int) := by omega
   have k2 : (k : Int) < (n : Int) := by omega
   have HCT := Lib.hid hCT
   have HS1 := Lib.hid s1
   have HS2 := Lib.hid s2
   have HR := Lib.hid hR.out
   clear hc hcell hst hkl hmem hck hCT s1 s2 bd bd2 hl2 hR hBW hBX
   go_wp2_with fail
   refine HCT.out.mono ?_
   rintro e v1 ⟨rfl, hb1⟩
   have HV1 := Lib.hid (And.intro (HR.out.1.trans (hb1.mono HR.out.1.size)) (HR.out.2.below hb1 HR.out.2.lt))
   clear hb1 HCT HR f0 f1 f2 f3
   go_wp2
   go_roundw
   case rel => exact ⟨k + 1, by omega, by go_num, by rw [HS1.out], by rw [HS2.out], HV1.out⟩
   case measure => simp [intOf]; omega
  ·obtain rfl : k = n := by omega
   rw [List.take_of_length_le (by rw [HLN.out]; exact Nat.le_refl _)]
   have HBL : Hid (balB os bs q = (decide (wsL (-1) q os ≤ wsM 1 q bs) && decide (wsL 1 q bs ≤ wsM (-1) q os))) := rfl
   generalize wsL (-1) q os = x1 at *
   generalize wsM (-1) q os = x2 at *
   have HRA := Lib.hid hR.out
   clear hR
   go_wp2_with fail
   go_loopw [9, 10, 43] (fun tl tm t wr => ∃ k : Nat, k ≤ m ∧ t = .int .i64 k ∧ tl = .int .i64 (wsL (1) q (bs.take k)) ∧ tm = .int .i64 (wsM (1) q (bs.take k)) ∧ Hid (Below w.heap.size w wr ∧ Blk wr w.heap.size 42 #[.bool an, .slice aA ak ac, .bool an', .slice aA' ak' ac'])) (fun _ _ t _ => m - (intOf t).toNat)
   case atStart => exact ⟨0, Nat.zero_le _, rfl, rfl, rfl, HRA.out⟩
   case round =>
    obtain ⟨k, hk, rfl, rfl, rfl, hR⟩ := hrel
    by_cases hlt : k < m
    ·obtain ⟨b, o, rfl, hb, hc⟩ := HY.out.2 (by omega)
     obtain ⟨A', n', c', hcell, hst⟩ := hc k hlt
     obtain ⟨hBW, hBX⟩ := hR.out
     have hcl := (hBW.cell (p := ⟨b, o + k, none⟩) hb).trans hcell
     have hkl : k < bs.length := by rw [HMN.out]; exact hlt
     have hmem := getD_mem (d := ([] : List (Int × Int))) hkl
     have hck := HCB.out _ hmem
     have hCT := demandAt_any A' n' c' (bs[k]?.getD []) an an' aA aA' ak ac ak' ac' q wr (hst.below hBW) (HQ.out.below hBW) hck
     obtain ⟨s1, s2⟩ := ws_snoc (1) q hkl
     have bd := ws_bd (fun l hl => HCB.out l (List.mem_of_mem_take hl) : ∀ l ∈ bs.take k, chk false l = 0) (1) q
     have bd2 := wl_bd3 hck (1) q
     have hl2 := List.length_take_le k bs
     generalize wlL (1) q (bs[k]?.getD []) = xl at *
     generalize wlM (1) q (bs[k]?.getD []) = xm at *
     generalize wsL (1) q (bs.take k) = vl at *
     generalize wsM (1) q (bs.take k) = vm at *
     have wl1 : IntKind.i64.wrap (vl + xl) = vl + xl := IntWalk.i64_in _ (by omega)
     have wl2 : IntKind.i64.wrap (vm + xm) = vm + xm := IntWalk.i64_in _ (by omega)
     obtain ⟨f0, f1, f2, f3, -, -, -, -⟩ := hBX.four
     have k1 : (0 : Int) ≤ (k : Int) := by omega
     have k2 : (k : Int) < (m : Int) := by omega
     have HCT := Lib.hid hCT
     have HS1 := Lib.hid s1
     have HS2 := Lib.hid s2
     have HR := Lib.hid hR.out
     clear hc hcell hst hkl hmem hck hCT s1 s2 bd bd2 hl2 hR hBW hBX
     go_wp2_with fail
     refine HCT.out.mono ?_
     rintro e v1 ⟨rfl, hb1⟩
     have HV1 := Lib.hid (And.intro (HR.out.1.trans (hb1.mono HR.out.1.size)) (HR.out.2.below hb1 HR.out.2.lt))
     clear hb1 HCT HR f0 f1 f2 f3
     go_wp2
     go_roundw
     case rel => exact ⟨k + 1, by omega, by go_num, by rw [HS1.out], by rw [HS2.out], HV1.out⟩
     case measure => simp [intOf]; omega
    ·obtain rfl : k = m := by omega
     rw [List.take_of_length_le (by rw [HMN.out]; exact Nat.le_refl _)]
     generalize wsL 1 q bs = y1 at *
     generalize wsM 1 q bs = y2 at *
     have HB9 := Lib.hid hR.out.1
     clear hR
     by_cases p1 : x1 ≤ y2
     ·have d1 : decide (x1 ≤ y2) = true := decide_eq_true p1
      go_wp2
      go_ret
      exact ⟨by rw [HBL.out, d1]; rfl, HB9.out⟩
     ·have d1 : decide (x1 ≤ y2) = false := decide_eq_false p1
      go_wp2
      go_ret
      exact ⟨by rw [HBL.out, d1]; rfl, HB9.out⟩

end Go.Proofs.YtjajigkacccdgaaGreat
