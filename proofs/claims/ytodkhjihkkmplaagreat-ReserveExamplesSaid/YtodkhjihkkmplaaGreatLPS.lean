/-
The reference of layer 1: the least form of an integer. The reference of layer 1: Least. The reference of layer 1: From, Same. No statement of the seat is proved here; no conditions beyond those of each theorem.
-/
import Derived.Test.YtodkhjihkkmplaaGreatLPR
namespace Go.Proofs.YtodkhjihkkmplaaGreat
set_option linter.unusedVariables false
set_option linter.unusedSimpArgs false
open Go.RowKit
open Wd

theorem tl_zero (hs : List Int) : ∀ {k i : Nat}, tl hs k ≤ i → i < k → hs[i]?.getD 0 = 0
 | 0, i, _, h => absurd h (by omega)
 | k + 1, i, h, h2 => by
  rw [tl] at h
  split at h
  ·rename_i hz
   by_cases he : i = k
   ·rw [he]; exact hz
   ·exact tl_zero hs h (by omega)
  ·omega
theorem tl_last (hs : List Int) : ∀ {k j : Nat}, tl hs k = j + 1 → hs[j]?.getD 0 ≠ 0
 | 0, j, h => by simp [tl] at h
 | k + 1, j, h => by
  rw [tl] at h
  split at h
  ·exact tl_last hs h
  ·rename_i hz
   obtain rfl : k = j := by omega
   exact hz
theorem tl_idem (hs : List Int) (m : Nat) : tl (hs.take (tl hs m)) (tl hs m) = tl hs m := by
 cases hk : tl hs m with
 | zero => rfl
 | succ j =>
  have h := tl_last hs hk
  rw [tl, if_neg]
  rw [List.getElem?_take, if_pos (by omega)]
  exact h
theorem halvesL_get : ∀ (l : List Nat) (j : Nat), (halvesL l)[2 * j]?.getD 0 = ((l[j]?.getD 0 : Nat) : Int) % 65536 ∧ (halvesL l)[2 * j + 1]?.getD 0 = ((l[j]?.getD 0 : Nat) : Int) / 65536
 | [], j => by simp [halvesL]
 | d :: l, 0 => by simp [halvesL]
 | d :: l, j + 1 => by
  have ih := halvesL_get l j
  have e : halvesL (d :: l) = [((d : Nat) : Int) % 65536, ((d : Nat) : Int) / 65536] ++ halvesL l := by unfold halvesL; rw [List.flatMap_cons]
  rw [e, List.getElem?_append_right (by simp; omega), List.getElem?_append_right (by simp; omega)]
  rw [show 2 * (j + 1) - [((d : Nat) : Int) % 65536, ((d : Nat) : Int) / 65536].length = 2 * j by simp; omega, show 2 * (j + 1) + 1 - [((d : Nat) : Int) % 65536, ((d : Nat) : Int) / 65536].length = 2 * j + 1 by simp; omega, List.getElem?_cons_succ]
  exact ih
theorem val_zeros : ∀ {l : List Nat}, (∀ j : Nat, l[j]?.getD 0 = 0) → val l = 0
 | [], _ => rfl
 | d :: l, h => by
  have h0 := h 0
  simp at h0
  rw [val_cons, h0, val_zeros fun j => by have := h (j + 1); simpa using this]
theorem least_digs {l : List Nat} (hw : Ws l) : wdsL ((halvesL l).take (tl (halvesL l) (2 * l.length))) ((tl (halvesL l) (2 * l.length) + 1) / 2) = digs (val l) := by
 have hle := tl_le (halvesL l) (2 * l.length)
 have hz : ∀ i : Nat, tl (halvesL l) (2 * l.length) ≤ i → (halvesL l)[i]?.getD 0 = 0 := fun i hi => by
  by_cases h : i < 2 * l.length
  ·exact tl_zero _ hi h
  ·rw [List.getElem?_eq_none (by rw [halvesL_len]; omega)]; rfl
 have hlast := fun j => @tl_last (halvesL l) (2 * l.length) j
 generalize tl (halvesL l) (2 * l.length) = k at *
 have hm : (k + 1) / 2 ≤ l.length := by omega
 have hw1 : ∀ j, j < (k + 1) / 2 → wd2 ((halvesL l).take k) j = l[j]?.getD 0 := fun j hj => by
  obtain ⟨g1, g2⟩ := halvesL_get l j
  have hd := hw.get j
  have a1 : ((halvesL l).take k)[2 * j]?.getD 0 = ((l[j]?.getD 0 : Nat) : Int) % 65536 := by rw [List.getElem?_take, if_pos (by omega)]; exact g1
  have a2 : ((halvesL l).take k)[2 * j + 1]?.getD 0 = ((l[j]?.getD 0 : Nat) : Int) / 65536 := by
   rw [List.getElem?_take]
   split
   ·exact g2
   ·have := hz (2 * j + 1) (by omega)
    rw [← g2, this]
    rfl
  unfold wd2
  rw [a1, a2]
  omega
 have he : wdsL ((halvesL l).take k) ((k + 1) / 2) = l.take ((k + 1) / 2) := by
  apply List.ext_getElem (by simp [wdsL]; omega)
  intro j h1 h2
  have hj : j < (k + 1) / 2 := by simpa [wdsL] using h1
  have := hw1 j hj
  rw [List.getElem?_eq_getElem (by omega)] at this
  simpa [wdsL] using this
 rw [he]
 have hv : val l = val (l.take ((k + 1) / 2)) := by
  rw [val_take_drop l _ hm, val_zeros (l := l.drop ((k + 1) / 2)) fun j => ?_, Nat.mul_zero, Nat.add_zero]
  rw [List.getElem?_drop]
  obtain ⟨g1, g2⟩ := halvesL_get l ((k + 1) / 2 + j)
  have z1 := hz (2 * ((k + 1) / 2 + j)) (by omega)
  have z2 := hz (2 * ((k + 1) / 2 + j) + 1) (by omega)
  omega
 rw [hv, digs_val (hw.take _)]
 intro hl
 by_cases h0 : k = 0
 ·subst h0
  simp at hl
 ·obtain ⟨j, rfl⟩ : ∃ j, k = j + 1 := ⟨k - 1, by omega⟩
  have hne := hlast j rfl
  have hlen : (l.take ((j + 1 + 1) / 2)).length = (j + 1 + 1) / 2 := by simp; omega
  rw [List.getLast?_eq_getElem?, hlen, List.getElem?_take, if_pos (by omega)] at hl
  obtain ⟨g1, g2⟩ := halvesL_get l ((j + 1 + 1) / 2 - 1)
  rw [hl] at g1 g2
  simp at g1 g2
  by_cases hp : j = 2 * ((j + 1 + 1) / 2 - 1)
  ·rw [← hp] at g1; exact hne g1
  ·have : j = 2 * ((j + 1 + 1) / 2 - 1) + 1 := by omega
   rw [← this] at g2; exact hne g2

end Go.Proofs.YtodkhjihkkmplaaGreat

namespace Go.Proofs.YtodkhjihkkmplaaGreat
set_option linter.unusedVariables false
set_option linter.unusedSimpArgs false
open Go.RowKit
open Wd

theorem RetOf.toZ {w w' : World} {neg : Bool} {l : List Nat} {e : Ending} (hl : Ws l) (h : RetOf w neg (digs (val l)) e w') : RetZ w (sg neg (val l)) e w' := by
 obtain ⟨A, c, he, h1, h2, h3, h4⟩ := h
 refine ⟨A, (digs (val l)).length, c, ?_, h1, by rw [sg_natAbs]; exact h2, h3, h4⟩
 rw [he]
 by_cases hz : val l = 0
 ·rw [hz, sg_zero, digs_zero]
  simp
 ·have hp : 0 < (digs (val l)).length := by
   rcases Nat.eq_zero_or_pos (digs (val l)).length with h0 | h0
   ·have := val_digs (val l)
    rw [List.eq_nil_of_length_eq_zero h0] at this
    exact absurd this.symm hz
   ·exact h0
  rw [sg_neg hz, decide_eq_true hp, Bool.and_true]
theorem halvesL_Dg {l : List Nat} (hw : Ws l) : Dg (halvesL l) := fun i => by
 obtain ⟨g1, g2⟩ := halvesL_get l (i / 2)
 have hd := hw.get (i / 2)
 rcases Nat.mod_two_eq_zero_or_one i with h | h
 ·rw [show 2 * (i / 2) = i by omega] at g1
  omega
 ·rw [show 2 * (i / 2) + 1 = i by omega] at g2
  omega
theorem Dg.take {hs : List Int} (h : Dg hs) (k : Nat) : Dg (hs.take k) := fun i => by
 rw [List.getElem?_take]
 split
 ·exact h i
 ·simp

set_option maxRecDepth 100000 in
set_option maxHeartbeats 1000000 in
theorem rleast_any (neg : Bool) (A : Option Addr) (n c : Nat) (l : List Nat) (w : World) (h : Wat w A n l) (hm : n ≤ 10000000000) :
  Calls Tryz.prog 81 #[.agg #[.bool neg, .slice A n c]] w (RetZ w (sg neg (val l))) := by
 have hF : ∀ (W : World) A1 c1, IsAt W A1 (tl (halvesL l) (2 * n)) ((halvesL l).take (tl (halvesL l) (2 * n))) → tl (halvesL l) (2 * n) ≤ c1 →
   Calls Tryz.prog 125 #[.bool neg, .slice A1 (tl (halvesL l) (2 * n)) c1] W (RetZ W (sg neg (val l))) := fun W A1 c1 hI hc => by
  have hk := tl_le (halvesL l) (2 * n)
  refine (rof_any neg A1 _ c1 _ W hI hc (by omega) ((halvesL_Dg h.2.1).take _)).mono fun e w' hr => ?_
  rw [← h.1] at hr hk
  rw [tl_idem, List.take_take, Nat.min_self, least_digs h.2.1] at hr
  exact hr.toZ h.2.1
 go_enter Tryz.func81, Tryz.ntmps81
 go_wp2_with fail
 obtain ⟨hB0, hB1, hBW, hsz⟩ := pre2 w 29 #[.bool neg, .slice A n c] 29 #[.bool false, .slice none 0 0]
 generalize (w.alloc (.cells #[.bool neg, .slice A n c] 29)).alloc (.cells #[.bool false, .slice none 0 0] 29) = W at *
 have HSZ := Lib.hid hsz
 have HFF := Lib.hid hF
 clear hsz hF
 have s4 := RS.start hB1
 have hw : ∀ w', RS (w.heap.size + 1) 29 W w' → Wat w' A n l := fun w' hk => h.below (hBW.trans (hk.1.mono (by omega)))
 have HW := Lib.hid hw
 clear hw
 have hS : ∀ w', RS (w.heap.size + 1) 29 W w' → (w'.cell? ⟨w.heap.size, 0, none⟩ = some (.bool neg) ∧ w'.cell? ⟨w.heap.size, 1, none⟩ = some (.slice A n c)) ∧ RS (w.heap.size + 1) 29 W w' := fun w' hk => ⟨⟨(hk.blk hB0 (by omega)).cell 0, (hk.blk hB0 (by omega)).cell 1⟩, hk⟩
 have HS := Lib.hid hS
 clear hS
 clear hB0 hB1
 go_region_held3 (fun w' => (w'.cell? ⟨w.heap.size, 0, none⟩ = some (.bool neg) ∧ w'.cell? ⟨w.heap.size, 1, none⟩ = some (.slice A n c)) ∧ RS (w.heap.size + 1) 29 W w')
  (first | exact HS.out _ (by assumption) | exact HS.out _ (RS.drew (by assumption)) | exact HS.out _ (RS.drew (And.right (by assumption))) | exact HS.out _ (RS.set (And.right (by assumption)) _ _))
  (first
   | (go_at_call 97; have hk := And.right ‹_ ∧ RS (w.heap.size + 1) 29 W _›; refine (rhalves_any A n c l _ (HW.out _ hk) (by omega)).mono ?_; rintro e w1 ⟨A1, c1, rfl, hI1, hb1, hc1⟩; have hr1 := hk.call hb1)
   | (go_at_call 125; have hk := And.right ‹_ ∧ RS (w.heap.size + 1) 29 W _›; refine (HFF.out _ A1 c1 hI1 hc1).mono ?_; intro e w2 hr; obtain ⟨A2, k2, c2, rfl, hk2, hW2, hF2, hb2⟩ := hr; have hr2 := hr1.call hb2; obtain ⟨_, _, c0, c1, f0, f1⟩ := hr2.two))
 have hfin := retZ_close hBW (by omega) (by obtain ⟨_, _, _, hx⟩ := hr1; exact hx.lt) hr2 hk2 hW2 hF2
 obtain ⟨d0, d1, -, -⟩ := (hr2.done (.bool (decide (sg neg (val l) < 0))) (.slice A2 k2 c2)).two
 have HF := Lib.hid hfin
 clear hfin
 go_wp2
 refine bodyPost_ret (v := .agg #[.bool (decide (sg neg (val l) < 0)), .slice A2 k2 c2]) ?_ rfl HF.out
 simp [results, Tryz.results81, go_sem, d0, d1]

end Go.Proofs.YtodkhjihkkmplaaGreat

namespace Go.Proofs.YtodkhjihkkmplaaGreat
set_option linter.unusedVariables false
set_option linter.unusedSimpArgs false
open Go.RowKit
open Wd

theorem blk_wat2 {w : World} {g d d' : Nat} {t : TypeId} (h : Blk w g t #[.int .u32 ((d : Nat) : Int), .int .u32 ((d' : Nat) : Int)]) (h1 : d < 4294967296) (h2 : d' < 4294967296) : Wat w (some ⟨g, 0, none⟩) 2 [d, d'] := by
 refine ⟨rfl, ?_, fun _ => ⟨g, 0, rfl, h.lt, fun j hj => ?_⟩⟩
 ·intro x hx
  simp at hx
  rcases hx with rfl | rfl <;> assumption
 ·obtain ⟨a, b, _, _⟩ := h.two
  rcases j with _ | _ | j
  ·exact a
  ·exact b
  ·omega
theorem val_two (u : Nat) : val [u % 4294967296, u / 4294967296] = u := by
 rw [val_cons, val_cons, val_nil]
 omega

set_option maxRecDepth 100000 in
set_option maxHeartbeats 1000000 in
theorem rfrom_any (z : Int) (w : World) (h1 : -9223372036854775808 ≤ z) (h2 : z ≤ 9223372036854775807) :
  Calls Tryz.prog 50 #[.int .i64 z] w (RetZ w z) := by
 by_cases hz : z < 0
 ·have hw : IntKind.u64.wrap (-(IntKind.u64.wrap z)) = (z.natAbs : Int) := by
   rw [IntKind.wrap_u64, IntKind.wrap_u64]; omega
  have hw2 : IntKind.u64.wrap ((z.natAbs : Int).tdiv 4294967296) = ((z.natAbs / 4294967296 : Nat) : Int) := by
   rw [IntKind.wrap_u64, Int.tdiv_eq_ediv_of_nonneg (by omega)]; omega
  have hm1 : (z.natAbs : Int).tmod 4294967296 % 4294967296 = ((z.natAbs % 4294967296 : Nat) : Int) := by
   rw [Int.tmod_eq_emod_of_nonneg (by omega)]; omega
  have hm2 : ((z.natAbs / 4294967296 : Nat) : Int) % 4294967296 = ((z.natAbs / 4294967296 : Nat) : Int) := by omega
  have hs : sg true (val [z.natAbs % 4294967296, z.natAbs / 4294967296]) = z := by rw [val_two]; unfold sg; simp; omega
  have hd : z.natAbs % 4294967296 < 4294967296 := by omega
  have hd' : z.natAbs / 4294967296 < 4294967296 := by omega
  have HW := Lib.hid hw
  have HW2 := Lib.hid hw2
  have HM1 := Lib.hid hm1
  have HM2 := Lib.hid hm2
  clear hw hw2 hm1 hm2 h1 h2
  go_enter Tryz.func50, Tryz.ntmps50
  go_wp2_with fail
  rw [HW.out, HW2.out, HM1.out, HM2.out]
  generalize z.natAbs % 4294967296 = d at *
  generalize z.natAbs / 4294967296 = d' at *
  clear HW HW2 HM1 HM2
  clear hz
  have HZ := Lib.hid hs
  have hg := (Blk.new w 29 #[.bool false, .slice none 0 0]).alloc (.cells #[.int .u32 ((d : Nat) : Int), .int .u32 ((d' : Nat) : Int)] 50)
  have hu := blk_wat2 (Blk.new1 w (.cells #[.bool false, .slice none 0 0] 29) 50 #[.int .u32 ((d : Nat) : Int), .int .u32 ((d' : Nat) : Int)]) hd hd'
  have hbw : Below w.heap.size w ((w.alloc (.cells #[.bool false, .slice none 0 0] 29)).alloc (.cells #[.int .u32 ((d : Nat) : Int), .int .u32 ((d' : Nat) : Int)] 50)) := ((Below.refl _ _).alloc (Nat.le_refl _) _).alloc (by simp) _
  have hsz : ((w.alloc (.cells #[.bool false, .slice none 0 0] 29)).alloc (.cells #[.int .u32 ((d : Nat) : Int), .int .u32 ((d' : Nat) : Int)] 50)).heap.size = w.heap.size + 2 := by simp
  generalize (w.alloc (.cells #[.bool false, .slice none 0 0] 29)).alloc (.cells #[.int .u32 ((d : Nat) : Int), .int .u32 ((d' : Nat) : Int)] 50) = W at *
  refine (rleast_any _ _ 2 2 [d, d'] W hu (by omega)).mono ?_
  rw [HZ.out]
  rintro e w1 ⟨A, k, c, rfl, hk, hW, hF, hB⟩
  have hg1 := hg.below hB (by omega)
  have hfin := retZ_close hbw (by omega) (by omega) ⟨hB.mono (by omega), _, _, hg1⟩ hk hW hF
  have hg2 := hg1.set2 (.bool (decide (z < 0))) (.slice A k c)
  obtain ⟨c0, c1, f0, f1⟩ := hg1.two
  have HF := Lib.hid hfin
  clear hfin hu hbw hsz hB hW hF hg hg1
  generalize decide (z < 0) = zb at *
  go_wp2
  obtain ⟨d0, d1, -, -⟩ := hg2.two
  refine bodyPost_ret (v := .agg #[.bool zb, .slice A k c]) ?_ rfl HF.out
  simp [results, Tryz.results50, go_sem, d0, d1]
 ·have hn : z = (z.natAbs : Int) := by omega
  generalize z.natAbs = n at *
  have hm1 : z % 4294967296 = ((n % 4294967296 : Nat) : Int) := by omega
  have hm2 : z / 4294967296 = ((n / 4294967296 : Nat) : Int) := by omega
  have hdz : decide (z < 0) = false := decide_eq_false hz
  have hs : sg false (val [n % 4294967296, n / 4294967296]) = z := by rw [val_two, hn]; unfold sg; simp
  have hd : n % 4294967296 < 4294967296 := by omega
  have hd' : n / 4294967296 < 4294967296 := by omega
  have HM1 := Lib.hid hm1
  have HM2 := Lib.hid hm2
  have HDZ := Lib.hid hdz
  clear hm1 hm2 hdz hn
  go_enter Tryz.func50, Tryz.ntmps50
  go_wp2_with fail
  rw [HM1.out, HM2.out]
  clear HM1 HM2 hz HDZ
  generalize n % 4294967296 = d at *
  generalize n / 4294967296 = d' at *
  have HZ := Lib.hid hs
  have hg := (Blk.new w 29 #[.bool false, .slice none 0 0]).alloc (.cells #[.int .u32 ((d : Nat) : Int), .int .u32 ((d' : Nat) : Int)] 50)
  have hu := blk_wat2 (Blk.new1 w (.cells #[.bool false, .slice none 0 0] 29) 50 #[.int .u32 ((d : Nat) : Int), .int .u32 ((d' : Nat) : Int)]) hd hd'
  have hbw : Below w.heap.size w ((w.alloc (.cells #[.bool false, .slice none 0 0] 29)).alloc (.cells #[.int .u32 ((d : Nat) : Int), .int .u32 ((d' : Nat) : Int)] 50)) := ((Below.refl _ _).alloc (Nat.le_refl _) _).alloc (by simp) _
  have hsz : ((w.alloc (.cells #[.bool false, .slice none 0 0] 29)).alloc (.cells #[.int .u32 ((d : Nat) : Int), .int .u32 ((d' : Nat) : Int)] 50)).heap.size = w.heap.size + 2 := by simp
  generalize (w.alloc (.cells #[.bool false, .slice none 0 0] 29)).alloc (.cells #[.int .u32 ((d : Nat) : Int), .int .u32 ((d' : Nat) : Int)] 50) = W at *
  refine (rleast_any _ _ 2 2 [d, d'] W hu (by omega)).mono ?_
  rw [HZ.out]
  rintro e w1 ⟨A, k, c, rfl, hk, hW, hF, hB⟩
  have hg1 := hg.below hB (by omega)
  have hfin := retZ_close hbw (by omega) (by omega) ⟨hB.mono (by omega), _, _, hg1⟩ hk hW hF
  have hg2 := hg1.set2 (.bool (decide (z < 0))) (.slice A k c)
  obtain ⟨c0, c1, f0, f1⟩ := hg1.two
  have HF := Lib.hid hfin
  clear hfin hu hbw hsz hB hW hF hg hg1
  generalize decide (z < 0) = zb at *
  go_wp2
  obtain ⟨d0, d1, -, -⟩ := hg2.two
  refine bodyPost_ret (v := .agg #[.bool zb, .slice A k c]) ?_ rfl HF.out
  simp [results, Tryz.results50, go_sem, d0, d1]

end Go.Proofs.YtodkhjihkkmplaaGreat
