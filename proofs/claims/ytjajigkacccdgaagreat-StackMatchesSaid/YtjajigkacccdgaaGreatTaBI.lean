/-
The reference of layer 24: merge. No statement of the seat is proved here; no conditions beyond those of each theorem.
-/
import Derived.Test.YtjajigkacccdgaaGreatTaBF
import Derived.Test.YtjajigkacccdgaaGreatTaBG
import Derived.Deep.DrawnRows
import Derived.Test.YtjajigkacccdgaaGreatTaBH
namespace Go.Proofs.YtjajigkacccdgaaGreat
set_option linter.unusedVariables false
set_option linter.unusedSimpArgs false
open Go.RowKit
open Wd

/-- Where the steps of curve i lie. -/
theorem CsAt.steps {w : World} {A : Option Addr} {n : Nat} {ls : List (List (Int × Int))} (h : CsAt w A n ls) {i : Nat} (hi : i < n) : ∃ b o A' n' c', A = some ⟨b, o, none⟩ ∧ w.cell? ⟨b, o + i, none⟩ = some (.slice A' n' c') ∧ (ls[i]?.getD []).length = n' ∧ ∀ k, k < n' → ∃ b' o', A' = some ⟨b', o', none⟩ ∧ w.cell? ⟨b', o' + k * 2, none⟩ = some (.int .i64 ((ls[i]?.getD [])[k]?.getD (0, 0)).1) ∧ w.cell? ⟨b', o' + k * 2 + 1, none⟩ = some (.int .i64 ((ls[i]?.getD [])[k]?.getD (0, 0)).2) := by
 obtain ⟨b, o, rfl, hb, hc⟩ := h.2 (by omega)
 obtain ⟨A', n', c', hcell, hst⟩ := hc i hi
 refine ⟨b, o, A', n', c', rfl, hcell, hst.1, fun k hk => ?_⟩
 obtain ⟨b', o', rfl, hb', hs⟩ := hst.2.2 (by omega)
 exact ⟨b', o', rfl, (hs k hk).1, (hs k hk).2⟩
namespace St
theorem ptsK_len (ls : List (List (Int × Int))) (p : Int) (i : Nat) : (ptsK ls p i).length = i := by simp [ptsK]
theorem ptsK_bd {up : Bool} {ls : List (List (Int × Int))} (hk : ∀ l ∈ ls, chk up l = 0) (p : Int) (i : Nat) (hi : i ≤ ls.length) : ∀ y ∈ ptsK ls p i, 0 ≤ y ∧ y ≤ 1000000 := fun y hy => by
 obtain ⟨j, hj, rfl⟩ := List.mem_map.1 hy
 have hj : j < i := by simpa using hj
 have hgood := hk _ (getD_mem (d := []) (show j < ls.length by omega))
 exact atP_bd (chk_mono hgood) fun s hs => by
  have := (chk_ok hgood).2.2.2 s hs
  unfold Bad at this
  omega
theorem sumI_snoc : ∀ (xs : List Int) (y : Int), sumI (xs ++ [y]) = sumI xs + y
 | [], y => by simp [sumI]
 | x :: xs, y => by rw [List.cons_append, sumI, sumI_snoc xs y, sumI]; omega
theorem one_int {x : Int} : ∀ u ∈ (#[Value.int .i64 x] : Array Value).toList, u.oneCell' = true := by
 intro u hu
 simp at hu
 subst hu
 rfl
end St
def sliceN : Value → Nat
 | .slice _ n _ => n
 | _ => 0
namespace St
theorem look1_skip {up : Bool} {last : Option Int} {a : Int × Bool} {p : Int} (h : beyB up last p = false) : look1 up last a p = a := by rw [look1, if_pos h]
theorem look1_set {up : Bool} {last : Option Int} {a : Int × Bool} {p : Int} (h : beyB up last p = true) (h2 : a.2 = false ∨ ltB up p a.1 = true) : look1 up last a p = (p, true) := by rw [look1, if_neg (by simp [h]), if_pos h2]
theorem look1_keep {up : Bool} {last : Option Int} {a : Int × Bool} {p : Int} (h : beyB up last p = true) (h2 : a.2 = true) (h3 : ltB up p a.1 = false) : look1 up last a p = a := by rw [look1, if_neg (by simp [h]), if_neg (by simp [h2, h3])]
theorem ltB_t {a b : Int} (h : a < b) : ltB true a b = true := by simp [ltB, h]
theorem ltB_tn {a b : Int} (h : ¬ a < b) : ltB true a b = false := by simp [ltB]; omega
theorem ltB_f {a b : Int} (h : b < a) : ltB false a b = true := by simp [ltB, h]
theorem ltB_fn {a b : Int} (h : ¬ b < a) : ltB false a b = false := by simp [ltB]; omega
end St

set_option maxRecDepth 100000 in
set_option maxHeartbeats 16000000 in
theorem merge_true (A : Option Addr) (n c : Nat) (ls : List (List (Int × Int))) (lv : List St.Lv) (w : World) (h : CsAt w A n ls) (hk : ∀ l ∈ ls, chk true l = 0) (hlv : St.IsLv true n (St.tri 0 ls) lv) (hv : VL true n lv) (hn : n ≤ 16) :
  Calls Tryz.prog 66 #[.slice A n c, .bool true] w fun e w' => ∃ A1 c1, e = .returned (.slice A1 lv.length c1) ∧ LvAt w' A1 lv.length n lv ∧ Below w.heap.size w w' := by
 have HX := Lib.hid h
 have HK := Lib.hid hk
 have HLV := Lib.hid hlv
 have HVL := Lib.hid hv
 have hm48 := hv.len
 obtain ⟨ii, hii, hz0, hz1, hz2⟩ := info_parts info_rlevel
 have HI := Lib.hid hii
 have HZ0 := Lib.hid hz0
 have HZ1 := Lib.hid hz1
 have HZ2 := Lib.hid hz2
 obtain ⟨ji, hji, jz0, jz1, jz2⟩ := info_parts info_int64
 have JI := Lib.hid hji
 have JZ0 := Lib.hid jz0
 have JZ1 := Lib.hid jz1
 have JZ2 := Lib.hid jz2
 clear h hk hlv hv hii hz0 hz1 hz2 hji jz0 jz1 jz2
 go_enter Tryz.func66, Tryz.ntmps66
 go_wp2_with fail
 go_loopw [5] (fun th wr => ∃ (i : Nat) (Ah : Option Addr) (ch : Nat) (es : List Ent), i ≤ lv.length ∧ th = .slice Ah i ch ∧ Hid (Below w.heap.size w wr ∧ Own w.heap.size 105 3 wr Ah i ch (eCells n es) ∧ EntsO w.heap.size n lv wr i es)) (fun th _ => lv.length - sliceN th)
 case atStart => exact ⟨0, none, 0, [], Nat.zero_le _, rfl, Below.refl _ _, Own.nil _ _ _ _, rfl, fun j hj => absurd hj (by omega)⟩
 case round =>
  obtain ⟨i, Ah, ch, es, hi, rfl, hR⟩ := hrel
  obtain ⟨wv, rfl⟩ : ∃ v, v = wr := ⟨_, rfl⟩
  have hLP : i ≠ 0 → ∃ g, Ah = some ⟨g, 0, none⟩ ∧ wv.cell? ⟨g, (i - 1) * 3, none⟩ = some (.int .i64 (lv[i - 1]?.getD (0, 0, [])).1) ∧ St.lastP lv i = some (lv[i - 1]?.getD (0, 0, [])).1 := fun hi0 => by
   obtain ⟨g, cap, e1, e2, e3⟩ := World.ownsRow.form hR.out.2.1 (by omega)
   simp at e1
   obtain ⟨rfl, rfl⟩ := e1
   have hl := hR.out.2.2.1
   refine ⟨g, rfl, ?_, ?_⟩
   ·rw [World.ownsRow.cellAt hR.out.2.1 _ (by omega), (eCells_get n es (i - 1) (by omega)).1, (hR.out.2.2.2 (i - 1) (by omega)).1]
   ·obtain ⟨j, rfl⟩ : ∃ j, i = j + 1 := ⟨i - 1, by omega⟩
    rfl
  have HLP := Lib.hid hLP
  have HW := Lib.hid hR.out
  clear hLP hR
  go_wp2_with fail
  go_loopw [6, 7, 8] (fun tb tf ti wr2 => ∃ (i2 : Nat) (b : Int) (f : Bool), i2 ≤ n ∧ ti = .int .i64 i2 ∧ tb = .int .i64 b ∧ tf = .bool f ∧ Hid (St.lookL true (St.lastP lv i) (St.prP ls i2 0) = (b, f)) ∧ wv = wr2) (fun _ _ ti _ => n - (intOf ti).toNat)
  case atStart => exact ⟨0, 0, false, Nat.zero_le _, rfl, rfl, rfl, Lib.hid (by rw [St.prP_zero]; rfl), rfl⟩
  case round =>
   obtain ⟨i2, b, f, hi2, rfl, rfl, rfl, HL, rfl⟩ := hrel
   by_cases hlt : i2 < n
   ·obtain ⟨bA, oA, A', n', c', hAe, hcell, hln, hst⟩ := (HX.out.below HW.out.1).steps hlt
    subst hAe
    have hn3 : n' ≤ 3 := by
     have := (chk_ok (HK.out _ (getD_mem (d := []) (show i2 < ls.length by rw [HX.out.1]; exact hlt)))).2.1
     omega
    have HST := Lib.hid hst
    have HLN := Lib.hid hln
    have q1 : (0 : Int) ≤ (i2 : Int) := by omega
    have q2 : (i2 : Int) < (n : Int) := by omega
    clear hst hln
    go_wp2_with fail
    go_loopw [6, 7, 9] (fun tb tf tk wr3 => ∃ (k2 : Nat) (b : Int) (f : Bool), k2 ≤ n' ∧ tk = .int .i64 k2 ∧ tb = .int .i64 b ∧ tf = .bool f ∧ Hid (St.lookL true (St.lastP lv i) (St.prP ls i2 k2) = (b, f)) ∧ wv = wr3) (fun _ _ tk _ => n' - (intOf tk).toNat)
    case atStart => exact ⟨0, b, f, Nat.zero_le _, rfl, rfl, rfl, HL, rfl⟩
    case round =>
     clear HL
     obtain ⟨k2, b, f, hk2, rfl, rfl, rfl, HL, rfl⟩ := hrel
     by_cases hlk : k2 < n'
     ·obtain ⟨b', o', hA2, hc1, hc2⟩ := HST.out k2 hlk
      subst hA2
      have hkl : k2 < (ls[i2]?.getD []).length := by rw [HLN.out]; exact hlk
      have hpe : ((ls[i2]?.getD [])[k2]?.getD (0, 0)).2 = ((ls[i2]?.getD [])[k2]?.getD (0, 0)).2 := rfl
      have q3 : (0 : Int) ≤ (k2 : Int) := by omega
      have q4 : (k2 : Int) < (n' : Int) := by omega
      generalize hpd : ((ls[i2]?.getD [])[k2]?.getD (0, 0)).2 = p at *
      have HPD := Lib.hid hpd
      clear hpe hc1 hpd
      by_cases hi0 : i = 0
      ·subst hi0
       have HBE := Lib.hid (show St.beyB true (St.lastP lv 0) p = true from rfl)
       have hz0 : ¬ ((0 : Int) < ((0 : Nat) : Int)) := by omega
       cases f
       ·have hnf : (!false) = true := rfl
        go_wp2_with fail
        go_roundw
        case rel => exact ⟨k2 + 1, p, true, by omega, by go_num, rfl, rfl, Lib.hid (by rw [St.prP_snoc hkl, St.lookL_snoc, HL.out, HPD.out]; exact St.look1_set HBE.out (Or.inl rfl)), trivial⟩
        case measure => simp [intOf]; omega
       ·have hnf : (!true) = false := rfl
        by_cases hpb : p < b
        ·have HPB := Lib.hid (St.ltB_t hpb)
         go_wp2_with fail
         go_roundw
         case rel => exact ⟨k2 + 1, p, true, by omega, by go_num, rfl, rfl, Lib.hid (by rw [St.prP_snoc hkl, St.lookL_snoc, HL.out, HPD.out]; exact St.look1_set HBE.out (Or.inr HPB.out)), trivial⟩
         case measure => simp [intOf]; omega
        ·have HPB := Lib.hid (St.ltB_tn hpb)
         go_wp2_with fail
         go_roundw
         case rel => exact ⟨k2 + 1, b, true, by omega, by go_num, rfl, rfl, Lib.hid (by rw [St.prP_snoc hkl, St.lookL_snoc, HL.out, HPD.out]; exact St.look1_keep HBE.out rfl HPB.out), trivial⟩
         case measure => simp [intOf]; omega
      ·obtain ⟨g, hAh, hlast, hlv⟩ := HLP.out hi0
       subst hAh
       have hz0 : (0 : Int) < (i : Int) := by omega
       have wi : IntKind.i64.wrap ((i : Int) - 1) = ((i - 1 : Nat) : Int) := by rw [IntWalk.i64_in _ (by omega)]; omega
       have ji1 : (0 : Int) ≤ ((i - 1 : Nat) : Int) := by omega
       have ji2 : ((i - 1 : Nat) : Int) < (i : Int) := by omega
       generalize i - 1 = j at *
       generalize (lv[j]?.getD (0, 0, [])).1 = v at *
       by_cases hpv : p ≤ v
       ·have HBE := Lib.hid (show St.beyB true (St.lastP lv i) p = false by rw [hlv]; exact St.ltB_tn (by omega))
        clear hlv
        go_wp2_with fail
        go_roundw
        case rel => exact ⟨k2 + 1, b, f, by omega, by go_num, rfl, rfl, Lib.hid (by rw [St.prP_snoc hkl, St.lookL_snoc, HL.out, HPD.out]; exact St.look1_skip HBE.out), trivial⟩
        case measure => simp [intOf]; omega
       ·have HBE := Lib.hid (show St.beyB true (St.lastP lv i) p = true by rw [hlv]; exact St.ltB_t (by omega))
        clear hlv
        cases f
        ·have hnf : (!false) = true := rfl
         go_wp2_with fail
         go_roundw
         case rel => exact ⟨k2 + 1, p, true, by omega, by go_num, rfl, rfl, Lib.hid (by rw [St.prP_snoc hkl, St.lookL_snoc, HL.out, HPD.out]; exact St.look1_set HBE.out (Or.inl rfl)), trivial⟩
         case measure => simp [intOf]; omega
        ·have hnf : (!true) = false := rfl
         by_cases hpb : p < b
         ·have HPB := Lib.hid (St.ltB_t hpb)
          go_wp2_with fail
          go_roundw
          case rel => exact ⟨k2 + 1, p, true, by omega, by go_num, rfl, rfl, Lib.hid (by rw [St.prP_snoc hkl, St.lookL_snoc, HL.out, HPD.out]; exact St.look1_set HBE.out (Or.inr HPB.out)), trivial⟩
          case measure => simp [intOf]; omega
         ·have HPB := Lib.hid (St.ltB_tn hpb)
          go_wp2_with fail
          go_roundw
          case rel => exact ⟨k2 + 1, b, true, by omega, by go_num, rfl, rfl, Lib.hid (by rw [St.prP_snoc hkl, St.lookL_snoc, HL.out, HPD.out]; exact St.look1_keep HBE.out rfl HPB.out), trivial⟩
          case measure => simp [intOf]; omega
     ·obtain rfl : n' = k2 := by omega
      have HL2 : Hid (St.lookL true (St.lastP lv i) (St.prP ls (i2 + 1) 0) = (b, f)) := Lib.hid (by rw [← St.prP_next (by rw [HX.out.1]; exact hlt), HLN.out]; exact HL.out)
      clear HL
      go_wp2_with fail
      go_roundw
      case rel => exact ⟨i2 + 1, b, f, by omega, by go_num, rfl, rfl, HL2, trivial⟩
      case measure => simp [intOf]; omega
   ·obtain rfl : n = i2 := by omega
    have hlo := HL.out
    rw [show n = ls.length from HX.out.1.symm, St.look_next HLV.out hi] at hlo
    clear HL
    by_cases hil : i < lv.length
    ·rw [if_pos hil] at hlo
     obtain ⟨rfl, rfl⟩ : b = (lv[i]?.getD (0, 0, [])).1 ∧ f = true := by simp at hlo; exact ⟨hlo.1.symm, hlo.2⟩
     have hnf : (!true) = false := rfl
     have HPZ := Lib.hid (show lv[i]?.getD Lv0 = ((lv[i]?.getD Lv0).1, (lv[i]?.getD Lv0).2.1, (lv[i]?.getD Lv0).2.2) from rfl)
     have HPS := Lib.hid (HLV.out.2.2 _ (getD_mem (d := Lv0) hil))
     have HSM := Lib.hid (HVL.out.sum _ (getD_mem (d := Lv0) hil)).1
     generalize hpz : (lv[i]?.getD (0, 0, [])).1 = pz at *
     have HKP := Lib.hid hpz
     clear hlo hpz HLP
     go_wp2_with fail
     have hgl : wv.heap.size < wv.heap.size + 1 := Nat.lt_succ_self _
     have HB0 := Lib.hid (show Kp wv (wv.alloc (.cells #[.int .i64 pz, .int .i64 0, .slice none 0 0] 105)) ∧ Blk (wv.alloc (.cells #[.int .i64 pz, .int .i64 0, .slice none 0 0] 105)) wv.heap.size 105 #[.int .i64 pz, .int .i64 0, .slice none 0 0] from ⟨(Kp.refl wv).alloc _, Blk.new wv 105 _⟩)
     go_loopw [13] (fun ti wr4 => ∃ (i4 : Nat) (Ap : Option Addr) (cp : Nat), i4 ≤ n ∧ ti = .int .i64 i4 ∧ Hid (Kp wv wr4 ∧ Blk wr4 wv.heap.size 105 #[.int .i64 pz, .int .i64 (sumI (St.ptsK ls pz i4)), .slice Ap i4 cp] ∧ Own (wv.heap.size + 1) 2 1 wr4 Ap i4 cp ((St.ptsK ls pz i4).map (Value.int .i64)))) (fun ti _ => n - (intOf ti).toNat)
     case atStart => exact ⟨0, none, 0, Nat.zero_le _, rfl, HB0.out.1, HB0.out.2, Own.nil _ _ _ _⟩
     case round =>
      clear HB0
      obtain ⟨i4, Ap, cp, hi4, rfl, hR4⟩ := hrel
      obtain ⟨wu, rfl⟩ : ∃ v, v = wr := ⟨_, rfl⟩
      have HKP4 := Lib.hid (HW.out.1.trans (Below.mono hR4.out.1 HW.out.1.size))
      obtain ⟨z0, z1, z2⟩ := hR4.out.2.1.three
      have zf1 := hR4.out.2.1.frozen 1
      have zf2 := hR4.out.2.1.frozen 2
      by_cases hlt4 : i4 < n
      ·obtain ⟨bA, oA, A', n', c', hAe, hcell, hln, hst⟩ := (HX.out.below HKP4.out).steps hlt4
       subst hAe
       have hgood := HK.out _ (getD_mem (d := []) (show i4 < ls.length by rw [HX.out.1]; exact hlt4))
       have hn3 : n' ≤ 3 := by
        have := (chk_ok hgood).2.1
        omega
       have HST := Lib.hid hst
       have hpt := St.ptK_all (chk_mono hgood) pz
       rw [hln] at hpt
       have hbd := St.atP_bd (chk_mono hgood) (p := pz) fun s hs => by
        have := (chk_ok hgood).2.2.2 s hs
        unfold Bad at this
        omega
       rw [← hpt] at hbd
       have HPT := Lib.hid (show St.ptsK ls pz (i4 + 1) = St.ptsK ls pz i4 ++ [St.ptK (ls[i4]?.getD []) pz n'] by rw [St.ptsK_snoc, hpt])
       have q1 : (0 : Int) ≤ (i4 : Int) := by omega
       have q2 : (i4 : Int) < (n : Int) := by omega
       have HLN := Lib.hid hln
       clear hst hln hgood hpt
       go_wp2_with fail
       go_loopw [14, 15] (fun tp tk wr5 => ∃ (k5 : Nat), k5 ≤ n' ∧ tk = .int .i64 k5 ∧ tp = .int .i64 (St.ptK (ls[i4]?.getD []) pz k5) ∧ wu = wr5) (fun _ tk _ => n' - (intOf tk).toNat)
       case atStart => exact ⟨0, Nat.zero_le _, rfl, rfl, rfl⟩
       case round =>
        obtain ⟨k5, hk5, rfl, rfl, rfl⟩ := hrel
        by_cases hlk : k5 < n'
        ·obtain ⟨b', o', hA2, hc1, hc2⟩ := HST.out k5 hlk
         subst hA2
         have q3 : (0 : Int) ≤ (k5 : Int) := by omega
         have q4 : (k5 : Int) < (n' : Int) := by omega
         have HE := Lib.hid (show St.ptK (ls[i4]?.getD []) pz (k5 + 1) = if ((ls[i4]?.getD [])[k5]?.getD (0, 0)).2 = pz then ((ls[i4]?.getD [])[k5]?.getD (0, 0)).1 else St.ptK (ls[i4]?.getD []) pz k5 from rfl)
         generalize St.ptK (ls[i4]?.getD []) pz k5 = p0 at *
         generalize ((ls[i4]?.getD [])[k5]?.getD (0, 0)).2 = sp at *
         generalize ((ls[i4]?.getD [])[k5]?.getD (0, 0)).1 = sq at *
         by_cases hpe : sp = pz
         ·have he := HE.out
          rw [if_pos hpe] at he
          have HE2 := Lib.hid he
          have hb : (sp == pz) = true := by simpa using hpe
          clear he HE hpe
          go_wp2_with fail
          go_roundw
          case rel => exact ⟨k5 + 1, by omega, by go_num, by rw [HE2.out], trivial⟩
          case measure => simp [intOf]; omega
         ·have he := HE.out
          rw [if_neg hpe] at he
          have HE2 := Lib.hid he
          have hb : (sp == pz) = false := by simpa using hpe
          clear he HE hpe
          go_wp2_with fail
          go_roundw
          case rel => exact ⟨k5 + 1, by omega, by go_num, by rw [HE2.out], trivial⟩
          case measure => simp [intOf]; omega
        ·obtain rfl : n' = k5 := by omega
         have hsb := St.ptsK_bd HK.out pz i4 (by rw [HX.out.1]; omega)
         have hsl := sumI_bd _ hsb
         rw [St.ptsK_len] at hsl
         have HSQ := Lib.hid (show sumI (St.ptsK ls pz (i4 + 1)) = sumI (St.ptsK ls pz i4) + St.ptK (ls[i4]?.getD []) pz n' by rw [HPT.out, St.sumI_snoc])
         have hO := hR4.out.2.2
         have hOd := hO.keep (Kp.drew (Kp.refl wu))
         have hBd : Blk wu.drew wv.heap.size 105 #[.int .i64 pz, .int .i64 (sumI (St.ptsK ls pz i4)), .slice Ap i4 cp] := hR4.out.2.1
         have hz4 := Below.size hR4.out.1
         have hbk := hR4.out.2.1.lt
         have HK4 := Lib.hid hR4.out.1
         have HPT2 := HPT
         clear hO hR4 HPT hsb
         generalize St.ptK (ls[i4]?.getD []) pz n' = pt at *
         generalize sumI (St.ptsK ls pz i4) = q0 at *
         generalize hxs : St.ptsK ls pz i4 = xs at *
         have wl1 : IntKind.i64.wrap (q0 + pt) = q0 + pt := IntWalk.i64_in _ (by omega)
         go_wp2_with fail
         have HALL := Lib.hid (And.intro HX.out (And.intro HK.out (And.intro HLV.out (And.intro HVL.out (And.intro HW.out (And.intro HKP4.out (And.intro HPT2.out (And.intro HSQ.out (And.intro HK4.out (And.intro HPZ.out (And.intro HPS.out (And.intro HSM.out hxs))))))))))))
         clear HX HK HLV HVL HW HKP4 HPT2 HSQ HK4 HPZ HPS HSM hxs HST HLN HKP HI HZ0 HZ1 HZ2 hcell hnf hsl hz4 hbd
         clear hm48 hi hil hn3 hk5 hlk
         have hsz1 : wv.heap.size + 1 ≤ (wu.drew.alloc (.cells #[.int .i64 pt] 2)).heap.size := by simp; omega
         have hs0 : wu.drew.cell? ⟨wv.heap.size, 1, none⟩ = some (.int .i64 q0) := z1
         have hs3 : (wu.drew.alloc (.cells #[.int .i64 pt] 2)).cell? ⟨wv.heap.size, 1, none⟩ = some (.int .i64 q0) := (hBd.alloc _).cell 1
         have y0 : wu.drew.cell? ⟨wv.heap.size, 2, none⟩ = some (.slice Ap i4 cp) := z2
         have y1 : (wu.drew.alloc (.cells #[.int .i64 pt] 2)).cell? ⟨wv.heap.size, 2, none⟩ = some (.slice Ap i4 cp) := (hBd.alloc _).cell 2
         refine wp_region_front 11 2 _ (fun w' => w'.cell? ⟨wv.heap.size, 1, none⟩ = some (.int .i64 q0)) (by kernel_rfl) (by kernel_rfl) rfl hs0 (fun hHeld => ?_)
         simp only [List.toList_toArray, List.take_succ_cons, List.take_zero]
         refine' tkk 0 rfl (by kernel_rfl) (fun _ _ _ h => h) (.inl ⟨by rfl, ?_⟩) (by assumption) ?_; rotate_left
         ·(intro w hSw; (try dsimp only at hSw); (try simp only [p1, p2, p3]); go_simp; first | done | with_reducible rfl)
         (try simp only [Act.put, p1, p2, p3, p4, p5, p6])
         refine' tkk 2 rfl (by kernel_rfl) (fun _ _ _ h => h) (.inl ⟨by rfl, ?_⟩) (by assumption) ?_; rotate_left
         ·(intro w hSw; (try dsimp only at hSw); (try simp only [p1, p2, p3]); go_simp; first | done | with_reducible rfl)
         (try simp only [Act.put, p1, p2, p3, p4, p5, p6])
         refine' tkk 5 rfl (by kernel_rfl) (fun _ _ _ h => h) (.inl ⟨by rfl, ?_⟩) (by assumption) ?_; rotate_left
         ·(intro w hSw; (try dsimp only at hSw); (try simp only [p1, p2, p3]); go_simp; first | done | with_reducible rfl)
         (try simp only [Act.put, p1, p2, p3, p4, p5, p6])
         refine' tkk 6 rfl (by kernel_rfl) (fun _ _ _ h => h) (.inl ⟨by rfl, ?_⟩) (by assumption) ?_; rotate_left
         ·(intro w hSw; (try dsimp only at hSw); (try simp only [p1, p2, p3]); go_simp; first | done | with_reducible rfl)
         (try simp only [Act.put, p1, p2, p3, p4, p5, p6])
         refine' tkk 7 rfl (by kernel_rfl) (fun _ _ _ h => h) (.inl ⟨by rfl, ?_⟩) (by assumption) ?_; rotate_left
         ·(intro w hSw; (try dsimp only at hSw); (try simp only [p1, p2, p3]); go_simp; first | done | with_reducible rfl)
         (try simp only [Act.put, p1, p2, p3, p4, p5, p6])
         refine' tkk 8 rfl (by kernel_rfl) (fun _ _ _ h => h) (.inl ⟨by rfl, ?_⟩) (by assumption) ?_; rotate_left
         ·(intro w hSw; (try dsimp only at hSw); (try simp only [p1, p2, p3]); go_simp; first | done | with_reducible rfl)
         (try simp only [Act.put, p1, p2, p3, p4, p5, p6])
         refine wpAnyH_ready (rs := [1, 3]) (by kernel_rfl) (by simp) ?_
         refine AllReadyH.cons rfl (fun K hK => ?_) ?_
         ·(try simp only [p1, p2, p3])
          go_simp
          refine hK.out _ _ ?k1 (fun hHeld1 => ?n1)
          case k1 => ((try dsimp only); first | exact hs0 | exact hs3 | exact hs4 | exact hs10)
          clear hK K
          (try simp only [Act.put, p1, p2, p3, p4, p5, p6])
          refine wpAnyH_ready (rs := [3]) (by kernel_rfl) (by simp) ?_
          refine AllReadyH.cons rfl (fun K hK => ?_) AllReadyH.nil
          (try simp only [p1, p2, p3])
          go_simp
          refine hK.out _ _ ?k2 (fun hHeld2 => ?n2)
          case k2 => ((try dsimp only); first | exact hs0 | exact hs3 | exact hs4 | exact hs10)
          clear hK K
          (try simp only [Act.put, p1, p2, p3, p4, p5, p6])
          refine wpAnyH_ready (rs := [4]) (by kernel_rfl) (by simp) ?_
          refine AllReadyH.cons rfl (fun K hK => ?_) AllReadyH.nil
          have hO1 := hOd.keep ((Kp.refl wu.drew).alloc (.cells #[.int .i64 pt] 2))
          have m1 := Blk.new wu.drew 2 #[.int .i64 pt]
          refine step_append_my (by rfl) (base := wv.heap.size + 1) (e := 2) (size := 1) (bytes := 8) (.tmp 129) (.tmp 131) 62 rfl Tryz.underlying62 JI.out JZ0.out JZ1.out JZ2.out rfl (by decide) (xs := xs.map (Value.int .i64)) (news := [.int .i64 pt]) rfl (by exact hO1) rfl (by exact Blk.src m1 rfl St.one_int) (by simp only [maxLen]; omega) (by omega) (by exact hsz1) ?_
          intro B2 cb2 w2' hO2 hb2 hk2
          have hbx : Blk w2' wv.heap.size 105 #[.int .i64 pz, .int .i64 q0, .slice Ap i4 cp] := Blk.below (hBd.alloc (.cells #[.int .i64 pt] 2)) hb2 hgl
          obtain ⟨a0, hs4, a2⟩ := hbx.three
          have af1 := hbx.frozen 1
          have af2 := hbx.frozen 2
          have hbx2 := hbx.set 2 (.slice B2 (i4 + 1) cb2)
          obtain ⟨b0, hs10, b2⟩ := hbx2.three
          have bf1 := hbx2.frozen 1
          refine hK.out _ _ ?k3 (fun hHeld3 => ?n3)
          case k3 => ((try dsimp only); first | exact hs0 | exact hs3 | exact hs4 | exact hs10)
          clear hK K
          (try simp only [Act.put, p1, p2, p3, p4, p5, p6])
          refine' tkk 9 rfl (by kernel_rfl) (fun _ _ _ h => h) (.inl ⟨by rfl, ?_⟩) (by assumption) ?_; rotate_left
          ·(intro w hSw; (try dsimp only at hSw); (try simp only [p1, p2, p3]); go_simp; first | done | with_reducible rfl)
          (try simp only [Act.put, p1, p2, p3, p4, p5, p6])
          refine wpAnyH_ready (rs := [10]) (by kernel_rfl) (by simp) ?_
          refine AllReadyH.cons rfl (fun K hK => ?_) AllReadyH.nil
          (try simp only [p1, p2, p3])
          go_simp
          refine hK.out _ _ ?k4 (fun hHeld4 => ?n4)
          case k4 => ((try dsimp only); first | exact hs0 | exact hs3 | exact hs4 | exact hs10)
          clear hK K
          (try simp only [Act.put, p1, p2, p3, p4, p5, p6])
          refine wpAnyH_done (by kernel_rfl) ?_ _
          unfold Qfr
          dsimp only
          refine wpAny_ready (rs := [11]) (by kernel_rfl) (by simp) ?_
          refine AllReady.cons rfl (fun K hK => ?_) AllReady.nil
          (try simp only [List.getElem_toArray, List.getElem_cons_zero, List.getElem_cons_succ])
          go_simp
          refine hK _ _ ?_
          clear hK K
          (try simp only [Act.put, List.getElem_toArray, List.getElem_cons_zero, List.getElem_cons_succ, List.setIfInBounds_toArray, List.set_cons_zero, List.set_cons_succ])
          refine wpAny_ready (rs := [12]) (by kernel_rfl) (by simp) ?_
          refine AllReady.cons rfl (fun K hK => ?_) AllReady.nil
          (try simp only [List.getElem_toArray, List.getElem_cons_zero, List.getElem_cons_succ])
          go_simp
          refine hK _ _ ?_
          clear hK K
          (try simp only [Act.put, List.getElem_toArray, List.getElem_cons_zero, List.getElem_cons_succ, List.setIfInBounds_toArray, List.set_cons_zero, List.set_cons_succ])
          refine wpAny_done (by kernel_rfl) ?_ _
          have HF := Lib.hid (show Kp wv ((w2'.setCell ⟨wv.heap.size, 2, none⟩ (.slice B2 (i4 + 1) cb2)).setCell ⟨wv.heap.size, 1, none⟩ (.int .i64 (q0 + pt))) ∧ Blk ((w2'.setCell ⟨wv.heap.size, 2, none⟩ (.slice B2 (i4 + 1) cb2)).setCell ⟨wv.heap.size, 1, none⟩ (.int .i64 (q0 + pt))) wv.heap.size 105 #[.int .i64 pz, .int .i64 (q0 + pt), .slice B2 (i4 + 1) cb2] ∧ Own (wv.heap.size + 1) 2 1 ((w2'.setCell ⟨wv.heap.size, 2, none⟩ (.slice B2 (i4 + 1) cb2)).setCell ⟨wv.heap.size, 1, none⟩ (.int .i64 (q0 + pt))) B2 (i4 + 1) cb2 ((xs ++ [pt]).map (Value.int .i64)) from by
           refine ⟨?_, hbx2.set 1 (.int .i64 (q0 + pt)), ?_⟩
           ·have h1 : Kp wv w2' := Below.trans (show Below wv.heap.size wv (wu.drew.alloc (.cells #[.int .i64 pt] 2)) from (HALL.out.2.2.2.2.2.2.2.2.1.drew).alloc (.cells #[.int .i64 pt] 2)) (hb2.mono (Nat.le_succ _))
            exact (h1.set (p := ⟨wv.heap.size, 2, none⟩) (Nat.le_refl _) _).set (p := ⟨wv.heap.size, 1, none⟩) (Nat.le_refl _) _
           ·rw [List.map_append]
            exact (hO2.aside (p := ⟨wv.heap.size, 2, none⟩) hgl _).aside (p := ⟨wv.heap.size, 1, none⟩) hgl _)
          clear hbx hbx2 hO2 hb2 hk2 a0 a2 b0 b2 af1 af2 bf1 hs4 hs10 hO1 m1 hs3 hs0 hOd hBd z0 z1 z2 zf1 zf2
          obtain ⟨HX, HK, HLV, HVL, HW, HKP4, HPT2, HSQ, HK4, HPZ, HPS, HSM, hxs⟩ := HALL.out
          generalize (w2'.setCell ⟨wv.heap.size, 2, none⟩ (.slice B2 (i4 + 1) cb2)).setCell ⟨wv.heap.size, 1, none⟩ (.int .i64 (q0 + pt)) = w9 at *
          have HF2 := Lib.hid (show Kp wv w9 ∧ Blk w9 wv.heap.size 105 #[.int .i64 pz, .int .i64 (sumI (St.ptsK ls pz (i4 + 1))), .slice B2 (i4 + 1) cb2] ∧ Own (wv.heap.size + 1) 2 1 w9 B2 (i4 + 1) cb2 ((St.ptsK ls pz (i4 + 1)).map (Value.int .i64)) from by
           rw [HSQ, HPT2]
           exact HF.out)
          clear HF HX HK HLV HVL HW HKP4 HPT2 HSQ HK4 HPZ HPS HSM hxs HALL
          go_wp2_with fail
          go_roundw
          case rel => exact ⟨i4 + 1, B2, cb2, by omega, by go_num, HF2.out⟩
          case measure => simp [intOf]; omega
         refine AllReadyH.cons rfl (fun K hK => ?_) ?_
         ·(try simp only [p1, p2, p3])
          go_simp
          refine hK.out _ _ ?k5 (fun hHeld5 => ?n5)
          case k5 => ((try dsimp only); first | exact hs0 | exact hs3 | exact hs4 | exact hs10)
          clear hK K
          (try simp only [Act.put, p1, p2, p3, p4, p5, p6])
          refine wpAnyH_ready (rs := [1]) (by kernel_rfl) (by simp) ?_
          refine AllReadyH.cons rfl (fun K hK => ?_) AllReadyH.nil
          (try simp only [p1, p2, p3])
          go_simp
          refine hK.out _ _ ?k6 (fun hHeld6 => ?n6)
          case k6 => ((try dsimp only); first | exact hs0 | exact hs3 | exact hs4 | exact hs10)
          clear hK K
          (try simp only [Act.put, p1, p2, p3, p4, p5, p6])
          refine wpAnyH_ready (rs := [4]) (by kernel_rfl) (by simp) ?_
          refine AllReadyH.cons rfl (fun K hK => ?_) AllReadyH.nil
          have hO1 := hOd.keep ((Kp.refl wu.drew).alloc (.cells #[.int .i64 pt] 2))
          have m1 := Blk.new wu.drew 2 #[.int .i64 pt]
          refine step_append_my (by rfl) (base := wv.heap.size + 1) (e := 2) (size := 1) (bytes := 8) (.tmp 129) (.tmp 131) 62 rfl Tryz.underlying62 JI.out JZ0.out JZ1.out JZ2.out rfl (by decide) (xs := xs.map (Value.int .i64)) (news := [.int .i64 pt]) rfl (by exact hO1) rfl (by exact Blk.src m1 rfl St.one_int) (by simp only [maxLen]; omega) (by omega) (by exact hsz1) ?_
          intro B2 cb2 w2' hO2 hb2 hk2
          have hbx : Blk w2' wv.heap.size 105 #[.int .i64 pz, .int .i64 q0, .slice Ap i4 cp] := Blk.below (hBd.alloc (.cells #[.int .i64 pt] 2)) hb2 hgl
          obtain ⟨a0, hs4, a2⟩ := hbx.three
          have af1 := hbx.frozen 1
          have af2 := hbx.frozen 2
          have hbx2 := hbx.set 2 (.slice B2 (i4 + 1) cb2)
          obtain ⟨b0, hs10, b2⟩ := hbx2.three
          have bf1 := hbx2.frozen 1
          refine hK.out _ _ ?k7 (fun hHeld7 => ?n7)
          case k7 => ((try dsimp only); first | exact hs0 | exact hs3 | exact hs4 | exact hs10)
          clear hK K
          (try simp only [Act.put, p1, p2, p3, p4, p5, p6])
          refine' tkk 9 rfl (by kernel_rfl) (fun _ _ _ h => h) (.inl ⟨by rfl, ?_⟩) (by assumption) ?_; rotate_left
          ·(intro w hSw; (try dsimp only at hSw); (try simp only [p1, p2, p3]); go_simp; first | done | with_reducible rfl)
          (try simp only [Act.put, p1, p2, p3, p4, p5, p6])
          refine wpAnyH_ready (rs := [10]) (by kernel_rfl) (by simp) ?_
          refine AllReadyH.cons rfl (fun K hK => ?_) AllReadyH.nil
          (try simp only [p1, p2, p3])
          go_simp
          refine hK.out _ _ ?k8 (fun hHeld8 => ?n8)
          case k8 => ((try dsimp only); first | exact hs0 | exact hs3 | exact hs4 | exact hs10)
          clear hK K
          (try simp only [Act.put, p1, p2, p3, p4, p5, p6])
          refine wpAnyH_done (by kernel_rfl) ?_ _
          unfold Qfr
          dsimp only
          refine wpAny_ready (rs := [11]) (by kernel_rfl) (by simp) ?_
          refine AllReady.cons rfl (fun K hK => ?_) AllReady.nil
          (try simp only [List.getElem_toArray, List.getElem_cons_zero, List.getElem_cons_succ])
          go_simp
          refine hK _ _ ?_
          clear hK K
          (try simp only [Act.put, List.getElem_toArray, List.getElem_cons_zero, List.getElem_cons_succ, List.setIfInBounds_toArray, List.set_cons_zero, List.set_cons_succ])
          refine wpAny_ready (rs := [12]) (by kernel_rfl) (by simp) ?_
          refine AllReady.cons rfl (fun K hK => ?_) AllReady.nil
          (try simp only [List.getElem_toArray, List.getElem_cons_zero, List.getElem_cons_succ])
          go_simp
          refine hK _ _ ?_
          clear hK K
          (try simp only [Act.put, List.getElem_toArray, List.getElem_cons_zero, List.getElem_cons_succ, List.setIfInBounds_toArray, List.set_cons_zero, List.set_cons_succ])
          refine wpAny_done (by kernel_rfl) ?_ _
          have HF := Lib.hid (show Kp wv ((w2'.setCell ⟨wv.heap.size, 2, none⟩ (.slice B2 (i4 + 1) cb2)).setCell ⟨wv.heap.size, 1, none⟩ (.int .i64 (q0 + pt))) ∧ Blk ((w2'.setCell ⟨wv.heap.size, 2, none⟩ (.slice B2 (i4 + 1) cb2)).setCell ⟨wv.heap.size, 1, none⟩ (.int .i64 (q0 + pt))) wv.heap.size 105 #[.int .i64 pz, .int .i64 (q0 + pt), .slice B2 (i4 + 1) cb2] ∧ Own (wv.heap.size + 1) 2 1 ((w2'.setCell ⟨wv.heap.size, 2, none⟩ (.slice B2 (i4 + 1) cb2)).setCell ⟨wv.heap.size, 1, none⟩ (.int .i64 (q0 + pt))) B2 (i4 + 1) cb2 ((xs ++ [pt]).map (Value.int .i64)) from by
           refine ⟨?_, hbx2.set 1 (.int .i64 (q0 + pt)), ?_⟩
           ·have h1 : Kp wv w2' := Below.trans (show Below wv.heap.size wv (wu.drew.alloc (.cells #[.int .i64 pt] 2)) from (HALL.out.2.2.2.2.2.2.2.2.1.drew).alloc (.cells #[.int .i64 pt] 2)) (hb2.mono (Nat.le_succ _))
            exact (h1.set (p := ⟨wv.heap.size, 2, none⟩) (Nat.le_refl _) _).set (p := ⟨wv.heap.size, 1, none⟩) (Nat.le_refl _) _
           ·rw [List.map_append]
            exact (hO2.aside (p := ⟨wv.heap.size, 2, none⟩) hgl _).aside (p := ⟨wv.heap.size, 1, none⟩) hgl _)
          clear hbx hbx2 hO2 hb2 hk2 a0 a2 b0 b2 af1 af2 bf1 hs4 hs10 hO1 m1 hs3 hs0 hOd hBd z0 z1 z2 zf1 zf2
          obtain ⟨HX, HK, HLV, HVL, HW, HKP4, HPT2, HSQ, HK4, HPZ, HPS, HSM, hxs⟩ := HALL.out
          generalize (w2'.setCell ⟨wv.heap.size, 2, none⟩ (.slice B2 (i4 + 1) cb2)).setCell ⟨wv.heap.size, 1, none⟩ (.int .i64 (q0 + pt)) = w9 at *
          have HF2 := Lib.hid (show Kp wv w9 ∧ Blk w9 wv.heap.size 105 #[.int .i64 pz, .int .i64 (sumI (St.ptsK ls pz (i4 + 1))), .slice B2 (i4 + 1) cb2] ∧ Own (wv.heap.size + 1) 2 1 w9 B2 (i4 + 1) cb2 ((St.ptsK ls pz (i4 + 1)).map (Value.int .i64)) from by
           rw [HSQ, HPT2]
           exact HF.out)
          clear HF HX HK HLV HVL HW HKP4 HPT2 HSQ HK4 HPZ HPS HSM hxs HALL
          go_wp2_with fail
          go_roundw
          case rel => exact ⟨i4 + 1, B2, cb2, by omega, by go_num, HF2.out⟩
          case measure => simp [intOf]; omega
         exact AllReadyH.nil
      ·obtain rfl : n = i4 := by omega
       have hsm0 : (lv[i]?.getD Lv0).2.1 = sumI (St.ptsK ls pz n) ∧ (lv[i]?.getD Lv0).2.2 = St.ptsK ls pz n := by
        obtain ⟨s1, s2⟩ := HPS.out
        rw [show ((0 : Int), (0 : Int), ([] : List Int)) = Lv0 from rfl] at *
        have e := St.ptsK_all ls pz
        rw [HX.out.1] at e
        have e2 : (lv[i]?.getD Lv0).2.2 = St.ptsK ls pz n := by rw [s2]; exact e
        exact ⟨by rw [← e2]; exact HSM.out, e2⟩
       have HSM0 := Lib.hid hsm0
       generalize sumI (St.ptsK ls pz n) = sm at *
       have HR4 := Lib.hid hR4.out
       have o2 := (HW.out.2.1.keep hR4.out.1).keep ((Kp.refl wu).alloc (.cells #[.int .i64 pz, .int .i64 sm, .slice Ap n cp] 105))
       have m2 := Blk.new wu 105 #[.int .i64 pz, .int .i64 sm, .slice Ap n cp]
       have hz9 := Below.size hR4.out.1
       have hz8 := HW.out.1.size
       have hzz : w.heap.size ≤ (wu.alloc (.cells #[.int .i64 pz, .int .i64 sm, .slice Ap n cp] 105)).heap.size := by simp; omega
       clear hR4 hsm0 hlt4 HLV HPS HSM HVL
       go_wp2_with (first
        | (at_builtin; refine wpList_append_my rfl (base := w.heap.size) (e := 105) (size := 3) (bytes := 40) (.tmp 139) (.tmp 141) 25 rfl Tryz.underlying25 HI.out HZ0.out HZ1.out HZ2.out rfl (by decide) (xs := eCells n es) (news := [.int .i64 pz, .int .i64 sm, .slice Ap n cp]) rfl (by exact o2) rfl (by exact Blk.src m2 rfl (eCells_one n [(pz, sm, Ap, cp)])) (by simp only [maxLen]; omega) (by omega) (by exact hzz) ?_
           intro B2 cb2 w2 hO2 hb2 hk2)
        | fail)
       have hfin : Below w.heap.size w w2 ∧ Own w.heap.size 105 3 w2 B2 (i + 1) cb2 (eCells n (es ++ [(pz, sm, Ap, cp)])) ∧ EntsO w.heap.size n lv w2 (i + 1) (es ++ [(pz, sm, Ap, cp)]) := by
        have k1 : Kp wv wu := HR4.out.1
        have a2 : Kp wu (wu.alloc (.cells #[.int .i64 pz, .int .i64 sm, .slice Ap n cp] 105)) := (Kp.refl wu).alloc _
        refine ⟨((HW.out.1.trans (Below.mono k1 HW.out.1.size)).trans (Below.mono a2 (by omega))).trans hb2, by rw [eCells_append]; exact hO2, ?_⟩
        have he1 := (HW.out.2.2.below k1).snoc (x := (pz, sm, Ap, cp)) HKP.out.symm HSM0.out.1.symm (by rw [HSM0.out.2]; exact HR4.out.2.2.low (by omega))
        exact (he1.below a2).far o2 (by decide) hk2
       have HF := Lib.hid hfin
       clear hfin hO2 hb2 hk2 o2 m2 HR4 HW
       go_wp2
       go_roundw
       case rel => exact ⟨i + 1, B2, cb2, _, by omega, rfl, HF.out⟩
       case measure => simp [sliceN]; omega
    ·rw [if_neg hil] at hlo
     obtain ⟨rfl, rfl⟩ : b = 0 ∧ f = false := by simp at hlo; exact ⟨hlo.1.symm, hlo.2⟩
     obtain rfl : lv.length = i := by omega
     have HF := Lib.hid (show LvAt wv Ah lv.length n lv ∧ Below w.heap.size w wv from ⟨HW.out.2.1.levels rfl HW.out.2.2, HW.out.1⟩)
     have hnf : (!false) = true := rfl
     clear HW HLP hlo
     go_wp2
     go_ret
     exact ⟨Ah, ch, rfl, HF.out⟩

end Go.Proofs.YtjajigkacccdgaaGreat
