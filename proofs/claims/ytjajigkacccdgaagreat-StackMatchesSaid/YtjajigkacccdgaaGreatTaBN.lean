/-
The reference of layer 1: of. The reference of layer 1: the least form of an integer. The reference of layer 1: Least. No statement of the seat is proved here; no conditions beyond those of each theorem.
-/
import Derived.Test.YtjajigkacccdgaaGreatTaBM
namespace Go.Proofs.YtjajigkacccdgaaGreat
set_option linter.unusedVariables false
set_option linter.unusedSimpArgs false
open Go.RowKit
open Wd

/-- The word of two digits. -/
def wd2 (hs : List Int) (j : Nat) : Nat := (hs[2 * j]?.getD 0 + hs[2 * j + 1]?.getD 0 * 65536).toNat
def wdsL (hs : List Int) (m : Nat) : List Nat := (List.range m).map (wd2 hs)
def Dg (hs : List Int) : Prop := ∀ i : Nat, 0 ≤ hs[i]?.getD 0 ∧ hs[i]?.getD 0 < 65536
theorem wd2_lt {hs : List Int} (h : Dg hs) (j : Nat) : wd2 hs j < 4294967296 ∧ ((wd2 hs j : Nat) : Int) = hs[2 * j]?.getD 0 + hs[2 * j + 1]?.getD 0 * 65536 := by
 have h1 := h (2 * j)
 have h2 := h (2 * j + 1)
 unfold wd2
 omega
theorem wdsL_snoc (hs : List Int) (m : Nat) : wdsL hs (m + 1) = wdsL hs m ++ [wd2 hs m] := by
 unfold wdsL
 rw [List.range_succ, List.map_append]
 rfl
theorem wdsL_len (hs : List Int) (m : Nat) : (wdsL hs m).length = m := by simp [wdsL]
theorem wdsL_Ws {hs : List Int} (h : Dg hs) (m : Nat) : Ws (wdsL hs m) := fun x hx => by
 obtain ⟨j, _, rfl⟩ := List.mem_map.1 hx
 exact (wd2_lt h j).1
theorem u32_one {b : Int} : ∀ u ∈ (#[.int .u32 b] : Array Value).toList, u.oneCell' = true := by
 intro u hu
 simp at hu
 rw [hu]
 rfl
/-- The result of of: words in new memory. -/
def RetOf (w : World) (neg : Bool) (l : List Nat) (e : Ending) (w' : World) : Prop :=
 ∃ A c, e = .returned (.agg #[.bool (neg && decide (0 < l.length)), .slice A l.length c]) ∧ l.length ≤ c ∧ Wat w' A l.length l ∧ Fresh w.heap.size w' A l.length ∧ Below w.heap.size w w'

set_option maxRecDepth 100000 in
set_option maxHeartbeats 4000000 in
theorem rof_any (neg : Bool) (A : Option Addr) (n c : Nat) (hs : List Int) (w : World) (h : IsAt w A n hs) (hnc : n ≤ c) (hn : n ≤ 1000000000000) (hd : Dg hs) :
  Calls Tryz.prog 184 #[.bool neg, .slice A n c] w (RetOf w neg (wdsL (hs.take (tl hs n)) ((tl hs n + 1) / 2))) := by
 have HT := Lib.hid (fun W (hW : Below w.heap.size w W) => rtrim_any A n c hs W (h.below hW) hnc (by omega))
 have hk := tl_le hs n
 have hd2 : Dg (hs.take (tl hs n)) := fun i => by
  rw [List.getElem?_take]
  split
  ·exact hd i
  ·simp
 generalize hs.take (tl hs n) = ts at *
 generalize tl hs n = k at *
 obtain ⟨ii, hii, hz0, hz1, hz2⟩ := info_parts info_u32
 have HI := Lib.hid hii
 have HZ0 := Lib.hid hz0
 have HZ1 := Lib.hid hz1
 have HZ2 := Lib.hid hz2
 have HD := Lib.hid hd2
 clear h hii hz0 hz1 hz2 hd hd2
 go_enter Tryz.func184, Tryz.ntmps184
 go_wp2_with fail
 have hbx := Blk.new w 40 #[.bool false, .slice none 0 0]
 have hb0 : Below w.heap.size w (w.alloc (.cells #[.bool false, .slice none 0 0] 40)) := (Below.refl _ _).alloc (Nat.le_refl _) _
 generalize w.alloc (.cells #[.bool false, .slice none 0 0] 40) = W at *
 refine (HT.out W hb0).mono ?_
 rintro e w1 ⟨A1, rfl, hI, rfl⟩
 have HI1 := Lib.hid hI
 have HBX := Lib.hid hbx
 have HB0 := Lib.hid hb0
 have hwl : w.heap.size < w1.heap.size := hbx.lt
 clear hI HT hbx hb0
 go_wp2_with fail
 go_loopw [5, 6] (fun tw t wr => ∃ (j : Nat) (Aw : Option Addr) (cw : Nat), 2 * j ≤ k + 1 ∧ t = .int .i64 ((2 * j : Nat) : Int) ∧ tw = .slice Aw j cw ∧ Hid (Below w1.heap.size w1 wr ∧ Own w1.heap.size 59 1 wr Aw j cw (u32s (wdsL ts j)))) (fun _ t _ => k + 1 - (intOf t).toNat)
 case atStart => exact ⟨0, none, 0, by omega, rfl, rfl, Below.refl _ _, Own.nil _ _ _ _⟩
 case round =>
  obtain ⟨j, Aw, cw, hj, rfl, rfl, hR⟩ := hrel
  by_cases hlt : 2 * j < k
  ·obtain ⟨hB, hO⟩ := hR.out
   obtain ⟨x1, x2⟩ := wd2_lt HD.out j
   have y1 := HD.out (2 * j)
   have y2 := HD.out (2 * j + 1)
   have T1 := rat_any A1 k c (2 * j) ts wr (HI1.out.below hB)
   have T2 := rat_any A1 k c (2 * j + 1) ts wr (HI1.out.below hB)
   have hsn := wdsL_snoc ts j
   generalize ts[2 * j]?.getD 0 = a at *
   generalize ts[2 * j + 1]?.getD 0 = b at *
   generalize wd2 ts j = d at *
   have e1 : IntKind.u32.wrap a = a := by rw [IntKind.wrap_u32]; omega
   have e2 : IntKind.u32.wrap b = b := by rw [IntKind.wrap_u32]; omega
   have e3 : IntKind.u32.wrap (b * 65536) = b * 65536 := by rw [IntKind.wrap_u32]; omega
   have e4 : IntKind.u32.wrap (a + b * 65536) = (d : Int) := by rw [IntKind.wrap_u32]; omega
   have e5 : IntKind.i64.wrap (((2 * j : Nat) : Int) + 1) = ((2 * j + 1 : Nat) : Int) := IntWalk.i64_in _ (by omega)
   have d1 : decide (((2 * j : Nat) : Int) < (k : Int)) = true := decide_eq_true (by omega)
   have e6 : IntKind.i64.wrap (((2 * j : Nat) : Int) + 2) = ((2 * (j + 1) : Nat) : Int) := IntWalk.i64_in _ (by omega)
   have HT1 := Lib.hid T1
   have HT2 := Lib.hid T2
   have HSN := Lib.hid hsn
   have HX2 := Lib.hid x2
   clear T1 T2 hsn x2 y1 y2 hR
   generalize hz : ((2 * j : Nat) : Int) = z at *
   have HZ := Lib.hid hz
   generalize hz' : ((2 * j + 1 : Nat) : Int) = z' at *
   generalize hz2 : ((2 * (j + 1) : Nat) : Int) = z2 at *
   have HZ2' := Lib.hid hz2
   clear hz hz' hz2
   have k1 := (Kp.refl wr).alloc (.cells #[.int .u32 (d : Int)] 59)
   have q1 : Below w1.heap.size w1 (wr.alloc (.cells #[.int .u32 (d : Int)] 59)) := hB.trans (Below.mono k1 hB.size)
   have o1 := hO.keep k1
   have m1 := Blk.new wr 59 #[.int .u32 (d : Int)]
   go_wp2_with fail
   refine HT1.out.mono ?_
   rintro e w2 ⟨rfl, rfl⟩
   clear HT1
   go_wp2_with fail
   refine HT2.out.mono ?_
   rintro e w3 ⟨rfl, rfl⟩
   clear HT2
   go_wp2_with (first
    | (at_builtin; refine wpList_append_my rfl (base := w1.heap.size) (e := 59) (size := 1) (bytes := 4) (.tmp 15) (.tmp 27) 38 rfl Tryz.underlying38 HI.out HZ0.out HZ1.out HZ2.out rfl (by decide) (xs := u32s (wdsL ts j)) (news := [.int .u32 (d : Int)]) rfl (by exact o1) rfl (by exact Blk.src m1 rfl u32_one) (by simp only [maxLen]; omega) (by omega) (by exact q1.size) ?_
       intro B1 cb1 w4 hO1 hb1 hk1
       have g1 : Below w1.heap.size w1 w4 := q1.trans hb1
       clear hb1 hk1))
   have hfin : Below w1.heap.size w1 w4 ∧ Own w1.heap.size 59 1 w4 B1 (j + 1) cb1 (u32s (wdsL ts (j + 1))) := by
    refine ⟨g1, ?_⟩
    rw [HSN.out, u32s_append]
    exact hO1
   have HF := Lib.hid hfin
   clear hfin g1 hO1 m1 o1 q1 k1 hO hB
   go_wp2
   go_roundw
   case rel => exact ⟨j + 1, B1, cb1, by omega, by rw [HZ2'.out], rfl, HF.out⟩
   case measure => rw [← HZ2'.out, ← HZ.out]; simp [intOf]; omega
  ·obtain ⟨hB, hO⟩ := hR.out
   have hjm : (k + 1) / 2 = j := by omega
   have d1 : decide (((2 * j : Nat) : Int) < (k : Int)) = false := decide_eq_false (by omega)
   obtain ⟨A9, c9, hv9, hc9, _, hW9, hF9⟩ := wat_of_own (wdsL_Ws HD.out j) hO
   simp at hv9
   obtain ⟨rfl, rfl⟩ := hv9
   have hbx := HBX.out.below hB HBX.out.lt
   have hB9 : Below w.heap.size w wr := HB0.out.trans (hB.mono HB0.out.size)
   have hfin : ∀ bv, (neg && decide (0 < j)) = bv → RetOf w neg (wdsL ts ((k + 1) / 2)) (.returned (.agg #[.bool bv, .slice Aw j cw])) ((wr.setCell ⟨w.heap.size, 0, none⟩ (.bool bv)).setCell ⟨w.heap.size, 1, none⟩ (.slice Aw j cw)) := by
    intro bv hbv
    rw [hjm]
    refine ⟨Aw, cw, by rw [wdsL_len, hbv], by rw [wdsL_len]; exact hc9, ?_, ?_, (hB9.setCell (p := ⟨w.heap.size, 0, none⟩) (Nat.le_refl _) _).setCell (p := ⟨w.heap.size, 1, none⟩) (Nat.le_refl _) _⟩
    ·rw [wdsL_len]
     exact (hW9.setFar hF9 (p := ⟨w.heap.size, 0, none⟩) (by simp; omega) _).setFar (hF9.set _ _) (p := ⟨w.heap.size, 1, none⟩) (by simp; omega) _
    ·rw [wdsL_len]
     exact ((hF9.set _ _).set _ _).mono (by omega)
   have hcell : ∀ bv : Bool, ((wr.setCell ⟨w.heap.size, 0, none⟩ (.bool bv)).setCell ⟨w.heap.size, 1, none⟩ (.slice Aw j cw)).cell? ⟨w.heap.size, 0, none⟩ = some (.bool bv) ∧ ((wr.setCell ⟨w.heap.size, 0, none⟩ (.bool bv)).setCell ⟨w.heap.size, 1, none⟩ (.slice Aw j cw)).cell? ⟨w.heap.size, 1, none⟩ = some (.slice Aw j cw) := fun bv => by
    have hbx2 : Blk _ w.heap.size 40 #[.bool bv, .slice Aw j cw] := (hbx.set 0 (.bool bv)).set 1 (.slice Aw j cw)
    exact ⟨hbx2.cell 0, hbx2.cell 1⟩
   obtain ⟨b0, b1, f0, f1⟩ := hbx.two
   have HF := Lib.hid hfin
   clear hfin hjm hB hO hR hW9 hF9 hB9 hbx
   cases neg with
   | false =>
    obtain ⟨g0, g1⟩ := hcell false
    have HFF := Lib.hid (HF.out false rfl)
    clear hcell
    go_wp2
    refine bodyPost_ret (v := .agg #[.bool false, .slice Aw j cw]) ?_ rfl HFF.out
    simp [results, Tryz.results184, go_sem, g0, g1]
   | true =>
    by_cases hj0 : 0 < j
    ·have d2 : decide ((0 : Int) < (j : Int)) = true := decide_eq_true (by omega)
     obtain ⟨g0, g1⟩ := hcell true
     have HFF := Lib.hid (HF.out true (by simp [hj0]))
     clear hcell
     go_wp2
     refine bodyPost_ret (v := .agg #[.bool true, .slice Aw j cw]) ?_ rfl HFF.out
     simp [results, Tryz.results184, go_sem, g0, g1]
    ·have d2 : decide ((0 : Int) < (j : Int)) = false := decide_eq_false (by omega)
     obtain ⟨g0, g1⟩ := hcell false
     have HFF := Lib.hid (HF.out false (by simp [hj0]))
     clear hcell
     go_wp2
     refine bodyPost_ret (v := .agg #[.bool false, .slice Aw j cw]) ?_ rfl HFF.out
     simp [results, Tryz.results184, go_sem, g0, g1]

end Go.Proofs.YtjajigkacccdgaaGreat

namespace Go.Proofs.YtjajigkacccdgaaGreat
set_option linter.unusedVariables false
set_option linter.unusedSimpArgs false
open Go.RowKit
open Wd

theorem tl_zero (hs : List Int) : ∀ {k i : Nat}, tl hs k ≤ i → i < k → hs[i]?.getD 0 = 0
 | 0, i, _, h => absurd h (by omega)
 | k + 1, i, h, h2 => by
  rw [tl] at h
  split at h
  ·rename_i hz
   by_cases he : i = k
   ·rw [he]; exact hz
   ·exact tl_zero hs h (by omega)
  ·omega
theorem tl_last (hs : List Int) : ∀ {k j : Nat}, tl hs k = j + 1 → hs[j]?.getD 0 ≠ 0
 | 0, j, h => by simp [tl] at h
 | k + 1, j, h => by
  rw [tl] at h
  split at h
  ·exact tl_last hs h
  ·rename_i hz
   obtain rfl : k = j := by omega
   exact hz
theorem tl_idem (hs : List Int) (m : Nat) : tl (hs.take (tl hs m)) (tl hs m) = tl hs m := by
 cases hk : tl hs m with
 | zero => rfl
 | succ j =>
  have h := tl_last hs hk
  rw [tl, if_neg]
  rw [List.getElem?_take, if_pos (by omega)]
  exact h
theorem halvesL_get : ∀ (l : List Nat) (j : Nat), (halvesL l)[2 * j]?.getD 0 = ((l[j]?.getD 0 : Nat) : Int) % 65536 ∧ (halvesL l)[2 * j + 1]?.getD 0 = ((l[j]?.getD 0 : Nat) : Int) / 65536
 | [], j => by simp [halvesL]
 | d :: l, 0 => by simp [halvesL]
 | d :: l, j + 1 => by
  have ih := halvesL_get l j
  have e : halvesL (d :: l) = [((d : Nat) : Int) % 65536, ((d : Nat) : Int) / 65536] ++ halvesL l := by unfold halvesL; rw [List.flatMap_cons]
  rw [e, List.getElem?_append_right (by simp; omega), List.getElem?_append_right (by simp; omega)]
  rw [show 2 * (j + 1) - [((d : Nat) : Int) % 65536, ((d : Nat) : Int) / 65536].length = 2 * j by simp; omega, show 2 * (j + 1) + 1 - [((d : Nat) : Int) % 65536, ((d : Nat) : Int) / 65536].length = 2 * j + 1 by simp; omega, List.getElem?_cons_succ]
  exact ih
theorem val_zeros : ∀ {l : List Nat}, (∀ j : Nat, l[j]?.getD 0 = 0) → val l = 0
 | [], _ => rfl
 | d :: l, h => by
  have h0 := h 0
  simp at h0
  rw [val_cons, h0, val_zeros fun j => by have := h (j + 1); simpa using this]
theorem least_digs {l : List Nat} (hw : Ws l) : wdsL ((halvesL l).take (tl (halvesL l) (2 * l.length))) ((tl (halvesL l) (2 * l.length) + 1) / 2) = digs (val l) := by
 have hle := tl_le (halvesL l) (2 * l.length)
 have hz : ∀ i : Nat, tl (halvesL l) (2 * l.length) ≤ i → (halvesL l)[i]?.getD 0 = 0 := fun i hi => by
  by_cases h : i < 2 * l.length
  ·exact tl_zero _ hi h
  ·rw [List.getElem?_eq_none (by rw [halvesL_len]; omega)]; rfl
 have hlast := fun j => @tl_last (halvesL l) (2 * l.length) j
 generalize tl (halvesL l) (2 * l.length) = k at *
 have hm : (k + 1) / 2 ≤ l.length := by omega
 have hw1 : ∀ j, j < (k + 1) / 2 → wd2 ((halvesL l).take k) j = l[j]?.getD 0 := fun j hj => by
  obtain ⟨g1, g2⟩ := halvesL_get l j
  have hd := hw.get j
  have a1 : ((halvesL l).take k)[2 * j]?.getD 0 = ((l[j]?.getD 0 : Nat) : Int) % 65536 := by rw [List.getElem?_take, if_pos (by omega)]; exact g1
  have a2 : ((halvesL l).take k)[2 * j + 1]?.getD 0 = ((l[j]?.getD 0 : Nat) : Int) / 65536 := by
   rw [List.getElem?_take]
   split
   ·exact g2
   ·have := hz (2 * j + 1) (by omega)
    rw [← g2, this]
    rfl
  unfold wd2
  rw [a1, a2]
  omega
 have he : wdsL ((halvesL l).take k) ((k + 1) / 2) = l.take ((k + 1) / 2) := by
  apply List.ext_getElem (by simp [wdsL]; omega)
  intro j h1 h2
  have hj : j < (k + 1) / 2 := by simpa [wdsL] using h1
  have := hw1 j hj
  rw [List.getElem?_eq_getElem (by omega)] at this
  simpa [wdsL] using this
 rw [he]
 have hv : val l = val (l.take ((k + 1) / 2)) := by
  rw [val_take_drop l _ hm, val_zeros (l := l.drop ((k + 1) / 2)) fun j => ?_, Nat.mul_zero, Nat.add_zero]
  rw [List.getElem?_drop]
  obtain ⟨g1, g2⟩ := halvesL_get l ((k + 1) / 2 + j)
  have z1 := hz (2 * ((k + 1) / 2 + j)) (by omega)
  have z2 := hz (2 * ((k + 1) / 2 + j) + 1) (by omega)
  omega
 rw [hv, digs_val (hw.take _)]
 intro hl
 by_cases h0 : k = 0
 ·subst h0
  simp at hl
 ·obtain ⟨j, rfl⟩ : ∃ j, k = j + 1 := ⟨k - 1, by omega⟩
  have hne := hlast j rfl
  have hlen : (l.take ((j + 1 + 1) / 2)).length = (j + 1 + 1) / 2 := by simp; omega
  rw [List.getLast?_eq_getElem?, hlen, List.getElem?_take, if_pos (by omega)] at hl
  obtain ⟨g1, g2⟩ := halvesL_get l ((j + 1 + 1) / 2 - 1)
  rw [hl] at g1 g2
  simp at g1 g2
  by_cases hp : j = 2 * ((j + 1 + 1) / 2 - 1)
  ·rw [← hp] at g1; exact hne g1
  ·have : j = 2 * ((j + 1 + 1) / 2 - 1) + 1 := by omega
   rw [← this] at g2; exact hne g2

end Go.Proofs.YtjajigkacccdgaaGreat

namespace Go.Proofs.YtjajigkacccdgaaGreat
set_option linter.unusedVariables false
set_option linter.unusedSimpArgs false
open Go.RowKit
open Wd

theorem RetOf.toZ {w w' : World} {neg : Bool} {l : List Nat} {e : Ending} (hl : Ws l) (h : RetOf w neg (digs (val l)) e w') : RetZ w (sg neg (val l)) e w' := by
 obtain ⟨A, c, he, h1, h2, h3, h4⟩ := h
 refine ⟨A, (digs (val l)).length, c, ?_, h1, by rw [sg_natAbs]; exact h2, h3, h4⟩
 rw [he]
 by_cases hz : val l = 0
 ·rw [hz, sg_zero, digs_zero]
  simp
 ·have hp : 0 < (digs (val l)).length := by
   rcases Nat.eq_zero_or_pos (digs (val l)).length with h0 | h0
   ·have := val_digs (val l)
    rw [List.eq_nil_of_length_eq_zero h0] at this
    exact absurd this.symm hz
   ·exact h0
  rw [sg_neg hz, decide_eq_true hp, Bool.and_true]
theorem halvesL_Dg {l : List Nat} (hw : Ws l) : Dg (halvesL l) := fun i => by
 obtain ⟨g1, g2⟩ := halvesL_get l (i / 2)
 have hd := hw.get (i / 2)
 rcases Nat.mod_two_eq_zero_or_one i with h | h
 ·rw [show 2 * (i / 2) = i by omega] at g1
  omega
 ·rw [show 2 * (i / 2) + 1 = i by omega] at g2
  omega
theorem Dg.take {hs : List Int} (h : Dg hs) (k : Nat) : Dg (hs.take k) := fun i => by
 rw [List.getElem?_take]
 split
 ·exact h i
 ·simp

set_option maxRecDepth 100000 in
set_option maxHeartbeats 1000000 in
theorem rleast_any (neg : Bool) (A : Option Addr) (n c : Nat) (l : List Nat) (w : World) (h : Wat w A n l) (hm : n ≤ 10000000000) :
  Calls Tryz.prog 134 #[.agg #[.bool neg, .slice A n c]] w (RetZ w (sg neg (val l))) := by
 have hF : ∀ (W : World) A1 c1, IsAt W A1 (tl (halvesL l) (2 * n)) ((halvesL l).take (tl (halvesL l) (2 * n))) → tl (halvesL l) (2 * n) ≤ c1 →
   Calls Tryz.prog 184 #[.bool neg, .slice A1 (tl (halvesL l) (2 * n)) c1] W (RetZ W (sg neg (val l))) := fun W A1 c1 hI hc => by
  have hk := tl_le (halvesL l) (2 * n)
  refine (rof_any neg A1 _ c1 _ W hI hc (by omega) ((halvesL_Dg h.2.1).take _)).mono fun e w' hr => ?_
  rw [← h.1] at hr hk
  rw [tl_idem, List.take_take, Nat.min_self, least_digs h.2.1] at hr
  exact hr.toZ h.2.1
 go_enter Tryz.func134, Tryz.ntmps134
 go_wp2_with fail
 obtain ⟨hB0, hB1, hBW, hsz⟩ := pre2 w 40 #[.bool neg, .slice A n c] 40 #[.bool false, .slice none 0 0]
 generalize (w.alloc (.cells #[.bool neg, .slice A n c] 40)).alloc (.cells #[.bool false, .slice none 0 0] 40) = W at *
 have HSZ := Lib.hid hsz
 have HFF := Lib.hid hF
 clear hsz hF
 have s4 := RS.start hB1
 have hw : ∀ w', RS (w.heap.size + 1) 40 W w' → Wat w' A n l := fun w' hk => h.below (hBW.trans (hk.1.mono (by omega)))
 have HW := Lib.hid hw
 clear hw
 have hS : ∀ w', RS (w.heap.size + 1) 40 W w' → (w'.cell? ⟨w.heap.size, 0, none⟩ = some (.bool neg) ∧ w'.cell? ⟨w.heap.size, 1, none⟩ = some (.slice A n c)) ∧ RS (w.heap.size + 1) 40 W w' := fun w' hk => ⟨⟨(hk.blk hB0 (by omega)).cell 0, (hk.blk hB0 (by omega)).cell 1⟩, hk⟩
 have HS := Lib.hid hS
 clear hS
 clear hB0 hB1
 go_region_held3 (fun w' => (w'.cell? ⟨w.heap.size, 0, none⟩ = some (.bool neg) ∧ w'.cell? ⟨w.heap.size, 1, none⟩ = some (.slice A n c)) ∧ RS (w.heap.size + 1) 40 W w')
  (first | exact HS.out _ (by assumption) | exact HS.out _ (RS.drew (by assumption)) | exact HS.out _ (RS.drew (And.right (by assumption))) | exact HS.out _ (RS.set (And.right (by assumption)) _ _))
  (first
   | (go_at_call 186; have hk := And.right ‹_ ∧ RS (w.heap.size + 1) 40 W _›; refine (rhalves_any A n c l _ (HW.out _ hk) (by omega)).mono ?_; rintro e w1 ⟨A1, c1, rfl, hI1, hb1, hc1⟩; have hr1 := hk.call hb1)
   | (go_at_call 184; have hk := And.right ‹_ ∧ RS (w.heap.size + 1) 40 W _›; refine (HFF.out _ A1 c1 hI1 hc1).mono ?_; intro e w2 hr; obtain ⟨A2, k2, c2, rfl, hk2, hW2, hF2, hb2⟩ := hr; have hr2 := hr1.call hb2; obtain ⟨_, _, c0, c1, f0, f1⟩ := hr2.two))
 have hfin := retZ_close hBW (by omega) (by obtain ⟨_, _, _, hx⟩ := hr1; exact hx.lt) hr2 hk2 hW2 hF2
 obtain ⟨d0, d1, -, -⟩ := (hr2.done (.bool (decide (sg neg (val l) < 0))) (.slice A2 k2 c2)).two
 have HF := Lib.hid hfin
 clear hfin
 go_wp2
 refine bodyPost_ret (v := .agg #[.bool (decide (sg neg (val l) < 0)), .slice A2 k2 c2]) ?_ rfl HF.out
 simp [results, Tryz.results134, go_sem, d0, d1]

end Go.Proofs.YtjajigkacccdgaaGreat
