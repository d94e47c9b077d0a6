/-
check and balances of package clear. traded of package clear: the least quantity at which the next unit is not worth trading. The statements of layer 24: at. Plain law of Share: all of a stack, nothing of it. The statements of layer 24: awake. No statement of the seat is proved here; no conditions beyond those of each theorem.
-/
import Derived.Test.YtjajigkacccdgaaGreatTcBJ
import Derived.Test.YtjajigkacccdgaaGreatTcBG
namespace Go.Proofs.YtjajigkacccdgaaGreat
set_option linter.unusedVariables false
set_option linter.unusedSimpArgs false
open Go.RowKit
open Wd

/-- The error of offers and bids. -/
def ckB (os bs : List (List (Int × Int))) : Int := if 5 < os.length ∨ 6 < bs.length then 5 else if (ckF true 0 os).2 ≠ 0 then (ckF true 0 os).2 else (ckF false 0 bs).2

theorem ckF_zero_iff {up : Bool} {ls : List (List (Int × Int))} {k : Nat} : (ckF up k ls).2 = 0 ↔ ∀ l ∈ ls, chk up l = 0 := ⟨fun h => ckF_good h, fun h => ckF_zero h⟩
theorem ckB_iff {os bs : List (List (Int × Int))} : ckB os bs = 0 ↔ os.length ≤ 5 ∧ bs.length ≤ 6 ∧ (∀ l ∈ os, chk true l = 0) ∧ ∀ l ∈ bs, chk false l = 0 := by
 unfold ckB
 split
 ·constructor
  ·intro h; simp at h
  ·rintro ⟨h1, h2, _⟩; omega
 ·split
  ·rename_i h1 h2
   constructor
   ·intro h; exact absurd h h2
   ·rintro ⟨_, _, h3, _⟩; exact absurd (ckF_zero h3) h2
  ·rename_i h1 h2
   rw [ckF_zero_iff]
   constructor
   ·intro h
    exact ⟨by omega, by omega, ckF_zero_iff.1 (Classical.not_not.1 h2), h⟩
   ·rintro ⟨_, _, _, h⟩; exact h
theorem ckF_skip {up : Bool} {ls : List (List (Int × Int))} {k : Nat} (hk : k < ls.length) (h : chk up (ls[k]?.getD []) = 0) : (ckF up k (ls.drop k)).2 = (ckF up (k + 1) (ls.drop (k + 1))).2 := by
 rw [dropL hk, ckF, if_neg (by simpa using h)]
theorem ckF_hit {up : Bool} {ls : List (List (Int × Int))} {k : Nat} (hk : k < ls.length) (h : chk up (ls[k]?.getD []) ≠ 0) : (ckF up k (ls.drop k)).2 = chk up (ls[k]?.getD []) := by
 rw [dropL hk, ckF, if_pos h]

def ckX (os bs : List (List (Int × Int))) : Int := if (ckF true 0 os).2 ≠ 0 then (ckF true 0 os).2 else (ckF false 0 bs).2

set_option maxRecDepth 100000 in
set_option maxHeartbeats 4000000 in
theorem ccheck_any (A B : Option Addr) (n c m d : Nat) (os bs : List (List (Int × Int))) (w : World) (h : CsAt w A n os) (h' : CsAt w B m bs) (hs : ∀ l ∈ os, l.length ≤ 1000000000000) (ht : ∀ l ∈ bs, l.length ≤ 1000000000000) :
  Calls Tryz.prog 104 #[.slice A n c, .slice B m d] w fun e w' => e = .returned (.int .i64 (ckB os bs)) ∧ Below w.heap.size w w' := by
 have HX := Lib.hid h
 have HY := Lib.hid h'
 have HLN := Lib.hid h.1
 have HMN := Lib.hid h'.1
 have HS := Lib.hid hs
 have HT := Lib.hid ht
 by_cases h5 : 5 < n
 ·have e : ckB os bs = 5 := by unfold ckB; rw [if_pos (by rw [h.1]; exact Or.inl h5)]
  have d5 : decide ((5 : Int) < (n : Int)) = true := by simp; omega
  rw [e]
  clear h h' hs ht e
  go_enter Tryz.func104, Tryz.ntmps104
  go_wp2
  go_ret
  exact ⟨rfl, Below.refl _ _⟩
 ·have d5 : decide ((5 : Int) < (n : Int)) = false := by simp; omega
  by_cases h6 : 6 < m
  ·have e : ckB os bs = 5 := by unfold ckB; rw [if_pos (by rw [h'.1]; exact Or.inr h6)]
   have d6 : decide ((6 : Int) < (m : Int)) = true := by simp; omega
   rw [e]
   clear h h' hs ht e
   go_enter Tryz.func104, Tryz.ntmps104
   go_wp2
   go_ret
   exact ⟨rfl, Below.refl _ _⟩
  ·have d6 : decide ((6 : Int) < (m : Int)) = false := by simp; omega
   have HE0 : Hid (ckB os bs = ckX os bs) := by
    show ckB os bs = ckX os bs
    unfold ckB ckX
    rw [if_neg (by rw [h.1, h'.1]; omega)]
   clear h h' hs ht
   go_enter Tryz.func104, Tryz.ntmps104
   go_wp2_with fail
   go_loopw [21] (fun t wr => ∃ k : Nat, k ≤ n ∧ t = .int .i64 k ∧ Hid (Below w.heap.size w wr ∧ (ckF true 0 os).2 = (ckF true k (os.drop k)).2)) (fun t _ => n - (intOf t).toNat)
   case atStart => exact ⟨0, Nat.zero_le _, rfl, Below.refl _ _, by simp⟩
   case round =>
    obtain ⟨k, hk, rfl, hR⟩ := hrel
    by_cases hlt : k < n
    ·obtain ⟨b, o, rfl, hb, hc⟩ := HX.out.2 (by omega)
     obtain ⟨A', n', c', hcell, hst⟩ := hc k hlt
     have hcl := (hR.out.1.cell (p := ⟨b, o + k, none⟩) hb).trans hcell
     have hkl : k < os.length := by rw [HLN.out]; exact hlt
     have hmem := getD_mem (d := ([] : List (Int × Int))) hkl
     have hCK := checkOffer_any A' n' c' (os[k]?.getD []) wr (hst.below hR.out.1) (by rw [← hst.1]; exact HS.out _ hmem)
     have hsk := ckF_skip (up := true) hkl
     have hht := ckF_hit (up := true) hkl
     generalize chk true (os[k]?.getD []) = x at *
     have k1 : (0 : Int) ≤ (k : Int) := by omega
     have k2 : (k : Int) < (n : Int) := by omega
     have HCK := Lib.hid hCK
     have HR := Lib.hid hR.out
     have HSK := Lib.hid hsk
     have HHT := Lib.hid hht
     clear hc hcell hst hkl hmem hCK hR hsk hht
     go_wp2_with fail
     refine HCK.out.mono ?_
     rintro e v1 ⟨rfl, hb1⟩
     have HV1 := Lib.hid (HR.out.1.trans (hb1.mono HR.out.1.size))
     clear hb1 HCK
     by_cases hx : x = 0
     ·have dx : (x != 0) = false := by simpa using hx
      have HE := Lib.hid (HR.out.2.trans (HSK.out hx))
      clear HSK HHT HR hx
      go_wp2
      go_roundw
      case rel => exact ⟨k + 1, by omega, by go_num, HV1.out, HE.out⟩
      case measure => simp [intOf]; omega
     ·have dx : (x != 0) = true := by simpa using hx
      have HE := Lib.hid (HR.out.2.trans (HHT.out hx))
      clear HSK HHT HR
      go_wp2
      go_ret
      exact ⟨by rw [HE0.out]; unfold ckX; rw [HE.out, if_pos hx]; rfl, HV1.out⟩
    ·obtain rfl : k = n := by omega
     have he : (ckF true 0 os).2 = 0 := by
      rw [hR.out.2, List.drop_eq_nil_of_le (by rw [HLN.out]; exact Nat.le_refl _)]
      rfl
     have HZ := Lib.hid he
     have HBA := Lib.hid hR.out.1
     clear he hR
     go_wp2_with fail
     go_loopw [33] (fun t wr => ∃ k : Nat, k ≤ m ∧ t = .int .i64 k ∧ Hid (Below w.heap.size w wr ∧ (ckF false 0 bs).2 = (ckF false k (bs.drop k)).2)) (fun t _ => m - (intOf t).toNat)
     case atStart => exact ⟨0, Nat.zero_le _, rfl, HBA.out, by simp⟩
     case round =>
      obtain ⟨k, hk, rfl, hR⟩ := hrel
      by_cases hlt : k < m
      ·obtain ⟨b, o, rfl, hb, hc⟩ := HY.out.2 (by omega)
       obtain ⟨A', n', c', hcell, hst⟩ := hc k hlt
       have hcl := (hR.out.1.cell (p := ⟨b, o + k, none⟩) hb).trans hcell
       have hkl : k < bs.length := by rw [HMN.out]; exact hlt
       have hmem := getD_mem (d := ([] : List (Int × Int))) hkl
       have hCK := checkBid_any A' n' c' (bs[k]?.getD []) wr (hst.below hR.out.1) (by rw [← hst.1]; exact HT.out _ hmem)
       have hsk := ckF_skip (up := false) hkl
       have hht := ckF_hit (up := false) hkl
       generalize chk false (bs[k]?.getD []) = x at *
       have k1 : (0 : Int) ≤ (k : Int) := by omega
       have k2 : (k : Int) < (m : Int) := by omega
       have HCK := Lib.hid hCK
       have HR := Lib.hid hR.out
       have HSK := Lib.hid hsk
       have HHT := Lib.hid hht
       clear hc hcell hst hkl hmem hCK hR hsk hht
       go_wp2_with fail
       refine HCK.out.mono ?_
       rintro e v1 ⟨rfl, hb1⟩
       have HV1 := Lib.hid (HR.out.1.trans (hb1.mono HR.out.1.size))
       clear hb1 HCK
       by_cases hx : x = 0
       ·have dx : (x != 0) = false := by simpa using hx
        have HE := Lib.hid (HR.out.2.trans (HSK.out hx))
        clear HSK HHT HR hx
        go_wp2
        go_roundw
        case rel => exact ⟨k + 1, by omega, by go_num, HV1.out, HE.out⟩
        case measure => simp [intOf]; omega
       ·have dx : (x != 0) = true := by simpa using hx
        have HE := Lib.hid (HR.out.2.trans (HHT.out hx))
        clear HSK HHT HR
        go_wp2
        go_ret
        exact ⟨by rw [HE0.out]; unfold ckX; rw [HZ.out, if_neg (by simp), HE.out]; rfl, HV1.out⟩
      ·obtain rfl : k = m := by omega
       have he : (ckF false 0 bs).2 = 0 := by
        rw [hR.out.2, List.drop_eq_nil_of_le (by rw [HMN.out]; exact Nat.le_refl _)]
        rfl
       have HE := Lib.hid he
       have HB9 := Lib.hid hR.out.1
       clear he hR
       go_wp2
       go_ret
       exact ⟨by rw [HE0.out]; unfold ckX; rw [HZ.out, if_neg (by simp), HE.out]; rfl, HB9.out⟩

/-- What the curves of one side want together. -/
def wsL (side : Int) (q : Rat) (ls : List (List (Int × Int))) : Int := sumI (ls.map (wlL side q))
def wsM (side : Int) (q : Rat) (ls : List (List (Int × Int))) : Int := sumI (ls.map (wlM side q))
def balB (os bs : List (List (Int × Int))) (q : Rat) : Bool := decide (wsL (-1) q os ≤ wsM 1 q bs) && decide (wsL 1 q bs ≤ wsM (-1) q os)
theorem ws_snoc (side : Int) (q : Rat) {ls : List (List (Int × Int))} {k : Nat} (hk : k < ls.length) : wsL side q (ls.take (k + 1)) = wsL side q (ls.take k) + wlL side q (ls[k]?.getD []) ∧ wsM side q (ls.take (k + 1)) = wsM side q (ls.take k) + wlM side q (ls[k]?.getD []) :=
 ⟨sumw_snoc _ hk, sumw_snoc _ hk⟩
theorem wl_bd3 {up : Bool} {l : List (Int × Int)} (h : chk up l = 0) (side : Int) (q : Rat) : (0 ≤ wlL side q l ∧ wlL side q l ≤ 3000000) ∧ (0 ≤ wlM side q l ∧ wlM side q l ≤ 3000000) := by
 have h2 := chk_ok h
 have h3 := wl_bd (l := l) side q h2.2.2.2
 have h4 := h2.2.1
 omega
theorem ws_bd {up : Bool} {ls : List (List (Int × Int))} (h : ∀ l ∈ ls, chk up l = 0) (side : Int) (q : Rat) : (0 ≤ wsL side q ls ∧ wsL side q ls ≤ 3000000 * (ls.length : Int)) ∧ (0 ≤ wsM side q ls ∧ wsM side q ls ≤ 3000000 * (ls.length : Int)) :=
 ⟨sumw_bd _ ls fun l hl => (wl_bd3 (h l hl) side q).1, sumw_bd _ ls fun l hl => (wl_bd3 (h l hl) side q).2⟩

set_option maxRecDepth 100000 in
set_option maxHeartbeats 4000000 in
theorem balances_any (A B : Option Addr) (n c m d : Nat) (os bs : List (List (Int × Int))) (an an' : Bool) (aA aA' : Option Addr) (ak ac ak' ac' : Nat) (q : Rat) (w : World) (h : CsAt w A n os) (h' : CsAt w B m bs) (hq : QArg w an aA ak ac an' aA' ak' ac' q) (ho : ∀ l ∈ os, chk true l = 0) (hb : ∀ l ∈ bs, chk false l = 0) (hn : n ≤ 1000) (hm : m ≤ 1000) :
  Calls Tryz.prog 110 #[.slice A n c, .slice B m d, .agg #[.bool an, .slice aA ak ac, .bool an', .slice aA' ak' ac']] w fun e w' => e = .returned (.bool (balB os bs q)) ∧ Below w.heap.size w w' := by
 have HX := Lib.hid h
 have HY := Lib.hid h'
 have HLN := Lib.hid h.1
 have HMN := Lib.hid h'.1
 have HQ := Lib.hid hq
 have HCA := Lib.hid ho
 have HCB := Lib.hid hb
 clear h h' hq ho hb
 go_enter Tryz.func110, Tryz.ntmps110
 go_wp2_with fail
 have hbx := Blk.new w 42 #[.bool an, .slice aA ak ac, .bool an', .slice aA' ak' ac']
 have hb0 : Below w.heap.size w (w.alloc (.cells #[.bool an, .slice aA ak ac, .bool an', .slice aA' ak' ac'] 42)) := (Below.refl _ _).alloc (Nat.le_refl _) _
 generalize w.alloc (.cells #[.bool an, .slice aA ak ac, .bool an', .slice aA' ak' ac'] 42) = W0 at *
 have HST := Lib.hid (And.intro hb0 hbx)
 clear hb0 hbx
 go_loopw [7, 8, 23] (fun tl tm t wr => ∃ k : Nat, k ≤ n ∧ t = .int .i64 k ∧ tl = .int .i64 (wsL (-1) q (os.take k)) ∧ tm = .int .i64 (wsM (-1) q (os.take k)) ∧ Hid (Below w.heap.size w wr ∧ Blk wr w.heap.size 42 #[.bool an, .slice aA ak ac, .bool an', .slice aA' ak' ac'])) (fun _ _ t _ => n - (intOf t).toNat)
 case atStart => exact ⟨0, Nat.zero_le _, rfl, rfl, rfl, HST.out⟩
 case round =>
  obtain ⟨k, hk, rfl, rfl, rfl, hR⟩ := hrel
  by_cases hlt : k < n
  ·obtain ⟨b, o, rfl, hb, hc⟩ := HX.out.2 (by omega)
   obtain ⟨A', n', c', hcell, hst⟩ := hc k hlt
   obtain ⟨hBW, hBX⟩ := hR.out
   have hcl := (hBW.cell (p := ⟨b, o + k, none⟩) hb).trans hcell
   have hkl : k < os.length := by rw [HLN.out]; exact hlt
   have hmem := getD_mem (d := ([] : List (Int × Int))) hkl
   have hck := HCA.out _ hmem
   have hCT := supplyAt_any A' n' c' (os[k]?.getD []) an an' aA aA' ak ac ak' ac' q wr (hst.below hBW) (HQ.out.below hBW) hck
   obtain ⟨s1, s2⟩ := ws_snoc (-1) q hkl
   have bd := ws_bd (fun l hl => HCA.out l (List.mem_of_mem_take hl) : ∀ l ∈ os.take k, chk true l = 0) (-1) q
   have bd2 := wl_bd3 hck (-1) q
   have hl2 := List.length_take_le k os
   generalize wlL (-1) q (os[k]?.getD []) = xl at *
   generalize wlM (-1) q (os[k]?.getD []) = xm at *
   generalize wsL (-1) q (os.take k) = vl at *
   generalize wsM (-1) q (os.take k) = vm at *
   have wl1 : IntKind.i64.wrap (vl + xl) = vl + xl := IntWalk.i64_in _ (by omega)
   have wl2 : IntKind.i64.wrap (vm + xm) = vm + xm := IntWalk.i64_in _ (by omega)
   obtain ⟨f0, f1, f2, f3, -, -, -, -⟩ := hBX.four
   have k1 : (0 : Int) ≤ (k : Int) := by omega
   have k2 : (k : Int) < (n : Int) := by omega
   have HCT := Lib.hid hCT
   have HS1 := Lib.hid s1
   have HS2 := Lib.hid s2
   have HR := Lib.hid hR.out
   clear hc hcell hst hkl hmem hck hCT s1 s2 bd bd2 hl2 hR hBW hBX
   go_wp2_with fail
   refine HCT.out.mono ?_
   rintro e v1 ⟨rfl, hb1⟩
   have HV1 := Lib.hid (And.intro (HR.out.1.trans (hb1.mono HR.out.1.size)) (HR.out.2.below hb1 HR.out.2.lt))
   clear hb1 HCT HR f0 f1 f2 f3
   go_wp2
   go_roundw
   case rel => exact ⟨k + 1, by omega, by go_num, by rw [HS1.out], by rw [HS2.out], HV1.out⟩
   case measure => simp [intOf]; omega
  ·obtain rfl : k = n := by omega
   rw [List.take_of_length_le (by rw [HLN.out]; exact Nat.le_refl _)]
   have HBL : Hid (balB os bs q = (decide (wsL (-1) q os ≤ wsM 1 q bs) && decide (wsL 1 q bs ≤ wsM (-1) q os))) := rfl
   generalize wsL (-1) q os = x1 at *
   generalize wsM (-1) q os = x2 at *
   have HRA := Lib.hid hR.out
   clear hR
   go_wp2_with fail
   go_loopw [9, 10, 43] (fun tl tm t wr => ∃ k : Nat, k ≤ m ∧ t = .int .i64 k ∧ tl = .int .i64 (wsL (1) q (bs.take k)) ∧ tm = .int .i64 (wsM (1) q (bs.take k)) ∧ Hid (Below w.heap.size w wr ∧ Blk wr w.heap.size 42 #[.bool an, .slice aA ak ac, .bool an', .slice aA' ak' ac'])) (fun _ _ t _ => m - (intOf t).toNat)
   case atStart => exact ⟨0, Nat.zero_le _, rfl, rfl, rfl, HRA.out⟩
   case round =>
    obtain ⟨k, hk, rfl, rfl, rfl, hR⟩ := hrel
    by_cases hlt : k < m
    ·obtain ⟨b, o, rfl, hb, hc⟩ := HY.out.2 (by omega)
     obtain ⟨A', n', c', hcell, hst⟩ := hc k hlt
     obtain ⟨hBW, hBX⟩ := hR.out
     have hcl := (hBW.cell (p := ⟨b, o + k, none⟩) hb).trans hcell
     have hkl : k < bs.length := by rw [HMN.out]; exact hlt
     have hmem := getD_mem (d := ([] : List (Int × Int))) hkl
     have hck := HCB.out _ hmem
     have hCT := demandAt_any A' n' c' (bs[k]?.getD []) an an' aA aA' ak ac ak' ac' q wr (hst.below hBW) (HQ.out.below hBW) hck
     obtain ⟨s1, s2⟩ := ws_snoc (1) q hkl
     have bd := ws_bd (fun l hl => HCB.out l (List.mem_of_mem_take hl) : ∀ l ∈ bs.take k, chk false l = 0) (1) q
     have bd2 := wl_bd3 hck (1) q
     have hl2 := List.length_take_le k bs
     generalize wlL (1) q (bs[k]?.getD []) = xl at *
     generalize wlM (1) q (bs[k]?.getD []) = xm at *
     generalize wsL (1) q (bs.take k) = vl at *
     generalize wsM (1) q (bs.take k) = vm at *
     have wl1 : IntKind.i64.wrap (vl + xl) = vl + xl := IntWalk.i64_in _ (by omega)
     have wl2 : IntKind.i64.wrap (vm + xm) = vm + xm := IntWalk.i64_in _ (by omega)
     obtain ⟨f0, f1, f2, f3, -, -, -, -⟩ := hBX.four
     have k1 : (0 : Int) ≤ (k : Int) := by omega
     have k2 : (k : Int) < (m : Int) := by omega
     have HCT := Lib.hid hCT
     have HS1 := Lib.hid s1
     have HS2 := Lib.hid s2
     have HR := Lib.hid hR.out
     clear hc hcell hst hkl hmem hck hCT s1 s2 bd bd2 hl2 hR hBW hBX
     go_wp2_with fail
     refine HCT.out.mono ?_
     rintro e v1 ⟨rfl, hb1⟩
     have HV1 := Lib.hid (And.intro (HR.out.1.trans (hb1.mono HR.out.1.size)) (HR.out.2.below hb1 HR.out.2.lt))
     clear hb1 HCT HR f0 f1 f2 f3
     go_wp2
     go_roundw
     case rel => exact ⟨k + 1, by omega, by go_num, by rw [HS1.out], by rw [HS2.out], HV1.out⟩
     case measure => simp [intOf]; omega
    ·obtain rfl : k = m := by omega
     rw [List.take_of_length_le (by rw [HMN.out]; exact Nat.le_refl _)]
     generalize wsL 1 q bs = y1 at *
     generalize wsM 1 q bs = y2 at *
     have HB9 := Lib.hid hR.out.1
     clear hR
     by_cases p1 : x1 ≤ y2
     ·have d1 : decide (x1 ≤ y2) = true := decide_eq_true p1
      go_wp2
      go_ret
      exact ⟨by rw [HBL.out, d1]; rfl, HB9.out⟩
     ·have d1 : decide (x1 ≤ y2) = false := decide_eq_false p1
      go_wp2
      go_ret
      exact ⟨by rw [HBL.out, d1]; rfl, HB9.out⟩

end Go.Proofs.YtjajigkacccdgaaGreat

namespace Go.Proofs.YtjajigkacccdgaaGreat
set_option linter.unusedVariables false
set_option linter.unusedSimpArgs false
open Go.RowKit
open Wd

/-- The price of the unit u of a stack. -/
def uP : List St.Lv → Int → Option Int
 | [], _ => none
 | x :: r, u => if u < x.2.1 then some x.1 else uP r (u - x.2.1)
theorem uP_at : ∀ {lv : List St.Lv} {i : Nat} {u : Int}, (∀ x ∈ lv, 0 < x.2.1 ∧ x.2.1 ≤ 16000000) → i < lv.length → totI (lv.take i) ≤ u → u < totI (lv.take i) + (lv[i]?.getD Lv0).2.1 → uP lv u = some (lv[i]?.getD Lv0).1
 | [], _, _, _, hi, _, _ => by simp at hi
 | x :: r, 0, u, h, _, h1, h2 => by
  simp only [List.take_zero, totI, List.map_nil, sumI, List.getElem?_cons_zero, Option.getD_some] at h1 h2 ⊢
  rw [uP, if_pos (by omega)]
 | x :: r, i + 1, u, h, hi, h1, h2 => by
  have hx := h x (List.mem_cons_self ..)
  have hr := tot_bd (r.take i) fun y hy => h y (List.mem_cons_of_mem _ (List.mem_of_mem_take hy))
  have e : totI ((x :: r).take (i + 1)) = x.2.1 + totI (r.take i) := by simp [totI, sumI]
  rw [e] at h1 h2
  rw [List.getElem?_cons_succ] at h2 ⊢
  rw [uP, if_neg (by omega)]
  exact uP_at (fun y hy => h y (List.mem_cons_of_mem _ hy)) (by simpa using hi) (by omega) (by omega)
theorem uP_out : ∀ {lv : List St.Lv} {u : Int}, (∀ x ∈ lv, 0 < x.2.1 ∧ x.2.1 ≤ 16000000) → totI lv ≤ u → uP lv u = none
 | [], _, _, _ => rfl
 | x :: r, u, h, h1 => by
  have hr := tot_bd r fun y hy => h y (List.mem_cons_of_mem _ hy)
  have e : totI (x :: r) = x.2.1 + totI r := rfl
  rw [e] at h1
  rw [uP, if_neg (by omega)]
  exact uP_out (fun y hy => h y (List.mem_cons_of_mem _ hy)) (by omega)
/-- Is the unit u worth trading? -/
def okU (S D : List St.Lv) (u : Int) : Prop := ∃ a b, uP S u = some a ∧ uP D u = some b ∧ a < b
/-- The quantity traded. -/
def TrZ (S D : List St.Lv) (z : Int) : Prop := 0 ≤ z ∧ (∀ u, 0 ≤ u → u < z → okU S D u) ∧ ¬ okU S D z
theorem TrZ.only {S D : List St.Lv} {z z' : Int} (h : TrZ S D z) (h' : TrZ S D z') : z = z' := by
 rcases Int.lt_trichotomy z z' with hl | hl | hl
 ·exact absurd (h'.2.1 z h.1 hl) h.2.2
 ·exact hl
 ·exact absurd (h.2.1 z' h'.1 hl) h'.2.2

/-- While the levels are gone through. -/
structure TrI (S D : List St.Lv) (i k : Nat) (z s b : Int) : Prop where
 s0 : 0 ≤ s
 b0 : 0 ≤ b
 si : i < S.length → s < (S[i]?.getD Lv0).2.1
 bi : k < D.length → b < (D[k]?.getD Lv0).2.1
 se : ¬ i < S.length → s = 0
 be : ¬ k < D.length → b = 0
 zs : z = totI (S.take i) + s
 zb : z = totI (D.take k) + b
 ok : ∀ u, 0 ≤ u → u < z → okU S D u
theorem TrI.start {S D : List St.Lv} (hS : ∀ x ∈ S, 0 < x.2.1 ∧ x.2.1 ≤ 16000000) (hD : ∀ x ∈ D, 0 < x.2.1 ∧ x.2.1 ≤ 16000000) : TrI S D 0 0 0 0 0 :=
 ⟨Int.le_refl _, Int.le_refl _, fun h => (hS _ (getD_mem h)).1, fun h => (hD _ (getD_mem h)).1, fun _ => rfl, fun _ => rfl, by simp [totI, sumI], by simp [totI, sumI], fun u h0 h1 => by omega⟩
theorem TrI.stop {S D : List St.Lv} {i k : Nat} {z s b : Int} (h : TrI S D i k z s b) (hS : ∀ x ∈ S, 0 < x.2.1 ∧ x.2.1 ≤ 16000000) (hD : ∀ x ∈ D, 0 < x.2.1 ∧ x.2.1 ≤ 16000000)
  (hx : ¬ (i < S.length ∧ k < D.length ∧ (S[i]?.getD Lv0).1 < (D[k]?.getD Lv0).1)) : TrZ S D z := by
 have b1 := (tot_bd (S.take i) fun x hx => hS x (List.mem_of_mem_take hx)).1
 have hs0 := h.s0
 have hzs := h.zs
 have hzb := h.zb
 refine ⟨by omega, h.ok, ?_⟩
 rintro ⟨a, c, h1, h2, h3⟩
 by_cases hi : i < S.length
 ·by_cases hk : k < D.length
  ·have e1 := uP_at hS hi (u := z) (by omega) (by have := h.si hi; omega)
   have e2 := uP_at hD hk (u := z) (by have := h.b0; omega) (by have := h.bi hk; omega)
   rw [e1] at h1
   rw [e2] at h2
   simp at h1 h2
   exact hx ⟨hi, hk, by omega⟩
  ·have hb := h.be hk
   rw [List.take_of_length_le (by omega)] at hzb
   rw [uP_out hD (by omega)] at h2
   simp at h2
 ·have hs := h.se hi
  rw [List.take_of_length_le (by omega)] at hzs
  rw [uP_out hS (by omega)] at h1
  simp at h1
theorem TrI.next {S D : List St.Lv} {i k : Nat} {z s b a : Int} (h : TrI S D i k z s b) (hS : ∀ x ∈ S, 0 < x.2.1 ∧ x.2.1 ≤ 16000000) (hD : ∀ x ∈ D, 0 < x.2.1 ∧ x.2.1 ≤ 16000000)
  (hi : i < S.length) (hk : k < D.length) (hp : (S[i]?.getD Lv0).1 < (D[k]?.getD Lv0).1) (ha : a = min ((S[i]?.getD Lv0).2.1 - s) ((D[k]?.getD Lv0).2.1 - b)) :
  TrI S D (if s + a = (S[i]?.getD Lv0).2.1 then i + 1 else i) (if b + a = (D[k]?.getD Lv0).2.1 then k + 1 else k) (z + a) (if s + a = (S[i]?.getD Lv0).2.1 then 0 else s + a) (if b + a = (D[k]?.getD Lv0).2.1 then 0 else b + a) := by
 have hsi := h.si hi
 have hbi := h.bi hk
 have hs0 := h.s0
 have hb0 := h.b0
 have hzs := h.zs
 have hzb := h.zb
 have t1 := tot_snoc hi
 have t2 := tot_snoc hk
 refine ⟨?_, ?_, fun hl => ?_, fun hl => ?_, fun hl => ?_, fun hl => ?_, ?_, ?_, fun u h0 h1 => ?_⟩
 ·split <;> omega
 ·split <;> omega
 ·split at hl
  ·rename_i e
   rw [if_pos e, if_pos e]
   exact (hS _ (getD_mem hl)).1
  ·rename_i e
   rw [if_neg e, if_neg e]
   omega
 ·split at hl
  ·rename_i e
   rw [if_pos e, if_pos e]
   exact (hD _ (getD_mem hl)).1
  ·rename_i e
   rw [if_neg e, if_neg e]
   omega
 ·split at hl
  ·rename_i e; rw [if_pos e]
  ·exact absurd hi hl
 ·split at hl
  ·rename_i e; rw [if_pos e]
  ·exact absurd hk hl
 ·split <;> omega
 ·split <;> omega
 ·by_cases hu : u < z
  ·exact h.ok u h0 hu
  ·exact ⟨_, _, uP_at hS hi (by omega) (by omega), uP_at hD hk (by omega) (by omega), hp⟩

set_option maxRecDepth 100000 in
set_option maxHeartbeats 8000000 in
theorem traded_any (A B : Option Addr) (m n c m' n' c' : Nat) (S D : List St.Lv) (w : World) (h : LvAt w A m n S) (h' : LvAt w B m' n' D) (hS : ∀ x ∈ S, 0 < x.2.1 ∧ x.2.1 ≤ 16000000) (hD : ∀ x ∈ D, 0 < x.2.1 ∧ x.2.1 ≤ 16000000) (hm : m ≤ 48) (hm' : m' ≤ 48) :
  Calls Tryz.prog 105 #[.slice A m c, .slice B m' c'] w fun e w' => ∃ z, e = .returned (.int .i64 z) ∧ TrZ S D z ∧ Below w.heap.size w w' := by
 have HA := Lib.hid h
 have HB := Lib.hid h'
 have HLN := Lib.hid h.1
 have HMN := Lib.hid h'.1
 have HS := Lib.hid hS
 have HD := Lib.hid hD
 clear h h' hS hD
 go_enter Tryz.func105, Tryz.ntmps105
 go_wp2_with fail
 go_loopw [5, 6, 7, 8, 9] (fun tz ts tb ti tk wr => ∃ (i k : Nat) (z s b : Int), i ≤ m ∧ k ≤ m' ∧ tz = .int .i64 z ∧ ts = .int .i64 s ∧ tb = .int .i64 b ∧ ti = .int .i64 i ∧ tk = .int .i64 k ∧ Hid (Below w.heap.size w wr ∧ TrI S D i k z s b)) (fun _ _ _ ti tk _ => (m - (intOf ti).toNat) + (m' - (intOf tk).toNat))
 case atStart => exact ⟨0, 0, 0, 0, 0, Nat.zero_le _, Nat.zero_le _, rfl, rfl, rfl, rfl, rfl, Below.refl _ _, TrI.start HS.out HD.out⟩
 case round =>
  obtain ⟨i, k, z, s, b, hi, hk, rfl, rfl, rfl, rfl, rfl, hR⟩ := hrel
  have i1 : (0 : Int) ≤ (i : Int) := by omega
  have k1 : (0 : Int) ≤ (k : Int) := by omega
  by_cases hlt : i < m
  ·have i2 : (i : Int) < (m : Int) := by omega
   by_cases hlt2 : k < m'
   ·have k2 : (k : Int) < (m' : Int) := by omega
    obtain ⟨b1, o1, rfl, hb1, hc1⟩ := HA.out.2 (by omega)
    obtain ⟨b2, o2, rfl, hb2, hc2⟩ := HB.out.2 (by omega)
    obtain ⟨P1, d1, ⟨y0, y1, -⟩, -⟩ := hc1 i hlt
    obtain ⟨P2, d2, ⟨z0, z1, -⟩, -⟩ := hc2 k hlt2
    replace y0 := (hR.out.1.cell (p := ⟨b1, o1 + i * 3, none⟩) hb1).trans y0
    replace y1 := (hR.out.1.cell (p := ⟨b1, o1 + i * 3 + 1, none⟩) hb1).trans y1
    replace z0 := (hR.out.1.cell (p := ⟨b2, o2 + k * 3, none⟩) hb2).trans z0
    replace z1 := (hR.out.1.cell (p := ⟨b2, o2 + k * 3 + 1, none⟩) hb2).trans z1
    have hil : i < S.length := by rw [HLN.out]; exact hlt
    have hkl : k < D.length := by rw [HMN.out]; exact hlt2
    have hq1 := HS.out _ (getD_mem (d := Lv0) hil)
    have hq2 := HD.out _ (getD_mem (d := Lv0) hkl)
    have hsi := hR.out.2.si hil
    have hbi := hR.out.2.bi hkl
    have hs0 := hR.out.2.s0
    have hb0 := hR.out.2.b0
    have hnx := fun a => hR.out.2.next (a := a) HS.out HD.out hil hkl
    have hst := hR.out.2.stop HS.out HD.out
    have hzb : 0 ≤ z ∧ z ≤ 16000000 * 49 := by
     have t1 := hR.out.2.zs
     have t2 := tot_bd (S.take i) fun x hx => HS.out x (List.mem_of_mem_take hx)
     have t3 := List.length_take_le i S
     omega
    generalize (S[i]?.getD Lv0).1 = p at *
    generalize (S[i]?.getD Lv0).2.1 = q at *
    generalize (D[k]?.getD Lv0).1 = p' at *
    generalize (D[k]?.getD Lv0).2.1 = q' at *
    by_cases hp : p < p'
    ·obtain ⟨a, ha⟩ : ∃ a, a = min (q - s) (q' - b) := ⟨_, rfl⟩
     have hnx := hnx a hp ha
     have dp : decide (p < p') = true := decide_eq_true hp
     have xq : IntKind.i64.wrap (q - s) = q - s := IntWalk.i64_in _ (by omega)
     have xq' : IntKind.i64.wrap (q' - b) = q' - b := IntWalk.i64_in _ (by omega)
     have ha1 : min (q - s) (q' - b) = a := ha.symm
     have ha2 : (if q' - b < q - s then q' - b else q - s) = a := by rw [ha]; split <;> omega
     have ha3 : (if q - s ≤ q' - b then q - s else q' - b) = a := by rw [ha]; split <;> omega
     have xz : IntKind.i64.wrap (z + a) = z + a := IntWalk.i64_in _ (by omega)
     have xs : IntKind.i64.wrap (s + a) = s + a := IntWalk.i64_in _ (by omega)
     have xb : IntKind.i64.wrap (b + a) = b + a := IntWalk.i64_in _ (by omega)
     have HNX := Lib.hid hnx
     have HBB := Lib.hid hR.out.1
     have HAA := Lib.hid (show s + a = q ∨ b + a = q' by omega)
     clear hnx hst hR hc1 hc2 hil hkl hq1 hq2 hsi hbi hs0 hb0 hzb ha hp hb1 hb2
     go_wp2_with fail
     go_quiet (fail)
     go_wp2_with fail
     have i1' : (0 : Int) ≤ (i : Int) := by omega
     have k1' : (0 : Int) ≤ (k : Int) := by omega
     have i2' : (i : Int) < (m : Int) := by omega
     have k2' : (k : Int) < (m' : Int) := by omega
     go_quiet (fail)
     by_cases g1 : s + a = q
     ·by_cases g2 : b + a = q'
      ·have hn9 := HNX.out
       rw [if_pos g1, if_pos g2, if_pos g1, if_pos g2] at hn9
       have d1 : (s + a == q) = true := by simpa using g1
       have d2 : (b + a == q') = true := by simpa using g2
       have HN9 := Lib.hid hn9
       clear hn9 HNX HAA g1 g2
       go_wp2
       go_roundw
       case rel => exact ⟨i + 1, k + 1, z + a, 0, 0, by omega, by omega, rfl, rfl, rfl, by first | rfl | go_num, by first | rfl | go_num, below_drewN HBB.out _, HN9.out⟩
       case measure => simp [intOf]; omega
      ·have hn9 := HNX.out
       rw [if_pos g1, if_neg g2, if_pos g1, if_neg g2] at hn9
       have d1 : (s + a == q) = true := by simpa using g1
       have d2 : (b + a == q') = false := beq_false_of_ne g2
       have HN9 := Lib.hid hn9
       clear hn9 HNX HAA g1 g2
       go_wp2
       go_roundw
       case rel => exact ⟨i + 1, k, z + a, 0, b + a, by omega, by omega, rfl, rfl, rfl, by first | rfl | go_num, by first | rfl | go_num, below_drewN HBB.out _, HN9.out⟩
       case measure => simp [intOf]; omega
     ·by_cases g2 : b + a = q'
      ·have hn9 := HNX.out
       rw [if_neg g1, if_pos g2, if_neg g1, if_pos g2] at hn9
       have d1 : (s + a == q) = false := beq_false_of_ne g1
       have d2 : (b + a == q') = true := by simpa using g2
       have HN9 := Lib.hid hn9
       clear hn9 HNX HAA g1 g2
       go_wp2
       go_roundw
       case rel => exact ⟨i, k + 1, z + a, s + a, 0, by omega, by omega, rfl, rfl, rfl, by first | rfl | go_num, by first | rfl | go_num, below_drewN HBB.out _, HN9.out⟩
       case measure => simp [intOf]; omega
      ·exact absurd HAA.out (by rintro (h | h); exact g1 h; exact g2 h)
    ·have dp : decide (p < p') = false := decide_eq_false hp
     have HST := Lib.hid (hst (fun h => hp h.2.2))
     have HBB := Lib.hid hR.out.1
     clear hnx hst hR hc1 hc2 hil hkl hq1 hq2 hsi hbi hs0 hb0 hzb hp hb1 hb2
     go_wp2_with fail
     go_quiet (fail)
     go_wp2
     go_ret
     exact ⟨z, rfl, HST.out, below_drewN HBB.out _⟩
   ·have k2 : ¬ (k : Int) < (m' : Int) := by omega
    have HST := Lib.hid (hR.out.2.stop HS.out HD.out (fun h => by have := h.2.1; have := HMN.out; omega))
    have HBB := Lib.hid hR.out.1
    clear hR
    go_wp2_with fail
    go_quiet (fail)
    go_wp2
    go_ret
    exact ⟨z, rfl, HST.out, below_drewN HBB.out _⟩
  ·have i2 : ¬ (i : Int) < (m : Int) := by omega
   have HST := Lib.hid (hR.out.2.stop HS.out HD.out (fun h => by have := h.1; have := HLN.out; omega))
   have HBB := Lib.hid hR.out.1
   clear hR
   go_wp2_with fail
   go_quiet (fail)
   go_wp2
   go_ret
   exact ⟨z, rfl, HST.out, below_drewN HBB.out _⟩

end Go.Proofs.YtjajigkacccdgaaGreat

namespace Go.Proofs.YtjajigkacccdgaaGreat
set_option linter.unusedVariables false
set_option linter.unusedSimpArgs false
open Go.RowKit
open Wd




theorem CsAt.one {w : World} {g : Nat} {t : TypeId} {A1 : Option Addr} {n1 c1 : Nat} {l1 : List (Int × Int)} (h : Blk w g t #[.slice A1 n1 c1]) (h1 : StAt w A1 n1 l1) : CsAt w (some ⟨g, 0, none⟩) 1 [l1] := by
 refine ⟨rfl, fun _ => ⟨g, 0, rfl, h.lt, fun j hj => ?_⟩⟩
 obtain rfl : j = 0 := by omega
 exact ⟨A1, n1, c1, h.cell 0, h1⟩

end Go.Proofs.YtjajigkacccdgaaGreat

namespace Go.Proofs.YtjajigkacccdgaaGreat
set_option linter.unusedVariables false
set_option linter.unusedSimpArgs false
open Go.RowKit
open Wd

theorem shRow_get {xs : List Int} {n : Nat} {t : Int} {ys : List Int} (hy : ys.length = n) : ∀ j, j ≤ n → ∀ i, i < n → (shRow xs n t ys j)[i]?.getD 0 = ys[i]?.getD 0 + if n - j ≤ i then shPart xs n t (n - 1 - i) else 0
 | 0, _, i, hi => by rw [shRow, if_neg (by omega)]; omega
 | j + 1, hj, i, hi => by
  have ih := shRow_get (xs := xs) (t := t) hy j (by omega)
  have hlen := shRow_len xs n t ys j
  rw [shRow, List.getElem?_set]
  by_cases e : n - 1 - j = i
  ·rw [if_pos e, if_pos (by omega), if_pos (by omega), ih (n - 1 - j) (by omega), if_neg (by omega)]
   simp only [Option.getD_some]
   rw [← e, show n - 1 - (n - 1 - j) = j by omega]
   omega
  ·rw [if_neg e, ih i hi]
   by_cases h2 : n - j ≤ i
   ·rw [if_pos h2, if_pos (by omega)]
   ·rw [if_neg h2, if_neg (by omega)]
theorem shRest_all {xs : List Int} {n : Nat} (hx : ∀ y ∈ xs, 0 ≤ y ∧ y ≤ 1000000) (hl : xs.length = n) : ∀ j, j ≤ n → shRest xs n (sumI xs) j = sumI (xs.take (n - j))
 | 0, _ => by rw [shRest, List.take_of_length_le (by omega)]
 | j + 1, hj => by
  have ih := shRest_all hx hl j (by omega)
  have h1 := take_int (xs := xs) (k := n - (j + 1)) (by omega)
  have h2 := sumI_bd (xs.take (n - (j + 1))) fun y hy => hx y (List.mem_of_mem_take hy)
  have h3 := hx _ (getD_mem (d := 0) (show n - (j + 1) < xs.length by omega))
  rw [show n - (j + 1) + 1 = n - j by omega] at h1
  rw [shRest, ih, h1, sumI_snoc, show n - 1 - j = n - (j + 1) by omega]
  omega
theorem shPart_all {xs : List Int} {n : Nat} (hx : ∀ y ∈ xs, 0 ≤ y ∧ y ≤ 1000000) (hl : xs.length = n) {i : Nat} (hi : i < n) : shPart xs n (sumI xs) (n - 1 - i) = xs[i]?.getD 0 := by
 have h0 := shRest_all hx hl (n - 1 - i) (by omega)
 have h1 := take_int (xs := xs) (k := i) (by omega)
 have h2 := sumI_bd (xs.take i) fun y hy => hx y (List.mem_of_mem_take hy)
 unfold shPart
 rw [h0, show n - (n - 1 - i) = i + 1 by omega, h1, sumI_snoc, show n - 1 - (n - 1 - i) = i by omega]
 omega
theorem shRest_zero {xs : List Int} {n : Nat} (hx : ∀ y ∈ xs, 0 ≤ y ∧ y ≤ 1000000) (hl : xs.length = n) {j : Nat} (hj : j ≤ n) : shRest xs n 0 j = 0 := by
 have := shRest_bd hx hl (Int.le_refl 0) j hj
 omega
theorem shPart_zero {xs : List Int} {n : Nat} (hx : ∀ y ∈ xs, 0 ≤ y ∧ y ≤ 1000000) (hl : xs.length = n) {j : Nat} (hj : j < n) : shPart xs n 0 j = 0 := by
 have h1 := shRest_zero hx hl (j := j) (by omega)
 have := hx _ (getD_mem (d := 0) (show n - 1 - j < xs.length by omega))
 unfold shPart
 rw [h1]
 omega





namespace St

end St
end Go.Proofs.YtjajigkacccdgaaGreat
namespace Go.Proofs.YtjajigkacccdgaaGreat
set_option linter.unusedVariables false
set_option linter.unusedSimpArgs false
open Go.RowKit
open Wd
end Go.Proofs.YtjajigkacccdgaaGreat