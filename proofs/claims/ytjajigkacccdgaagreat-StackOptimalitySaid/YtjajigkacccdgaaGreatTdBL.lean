/-
The reference of layer 1: the least form of an integer. The reference of layer 1: Least. The reference of layer 1: From, Same. The references of layers 1 and 2: Int, Same, Is. The references of layers 2 and 23: Is, Rows. No statement of the seat is proved here; no conditions beyond those of each theorem.
-/
import Derived.Test.YtjajigkacccdgaaGreatTdBK
import Derived.Test.YtjajigkacccdgaaGreatTdBI
namespace Go.Proofs.YtjajigkacccdgaaGreat
set_option linter.unusedVariables false
set_option linter.unusedSimpArgs false
open Go.RowKit
open Wd

theorem tl_zero (hs : List Int) : ∀ {k i : Nat}, tl hs k ≤ i → i < k → hs[i]?.getD 0 = 0
 | 0, i, _, h => absurd h (by omega)
 | k + 1, i, h, h2 => by
  rw [tl] at h
  split at h
  ·rename_i hz
   by_cases he : i = k
   ·rw [he]; exact hz
   ·exact tl_zero hs h (by omega)
  ·omega
theorem tl_last (hs : List Int) : ∀ {k j : Nat}, tl hs k = j + 1 → hs[j]?.getD 0 ≠ 0
 | 0, j, h => by simp [tl] at h
 | k + 1, j, h => by
  rw [tl] at h
  split at h
  ·exact tl_last hs h
  ·rename_i hz
   obtain rfl : k = j := by omega
   exact hz
theorem tl_idem (hs : List Int) (m : Nat) : tl (hs.take (tl hs m)) (tl hs m) = tl hs m := by
 cases hk : tl hs m with
 | zero => rfl
 | succ j =>
  have h := tl_last hs hk
  rw [tl, if_neg]
  rw [List.getElem?_take, if_pos (by omega)]
  exact h
theorem halvesL_get : ∀ (l : List Nat) (j : Nat), (halvesL l)[2 * j]?.getD 0 = ((l[j]?.getD 0 : Nat) : Int) % 65536 ∧ (halvesL l)[2 * j + 1]?.getD 0 = ((l[j]?.getD 0 : Nat) : Int) / 65536
 | [], j => by simp [halvesL]
 | d :: l, 0 => by simp [halvesL]
 | d :: l, j + 1 => by
  have ih := halvesL_get l j
  have e : halvesL (d :: l) = [((d : Nat) : Int) % 65536, ((d : Nat) : Int) / 65536] ++ halvesL l := by unfold halvesL; rw [List.flatMap_cons]
  rw [e, List.getElem?_append_right (by simp; omega), List.getElem?_append_right (by simp; omega)]
  rw [show 2 * (j + 1) - [((d : Nat) : Int) % 65536, ((d : Nat) : Int) / 65536].length = 2 * j by simp; omega, show 2 * (j + 1) + 1 - [((d : Nat) : Int) % 65536, ((d : Nat) : Int) / 65536].length = 2 * j + 1 by simp; omega, List.getElem?_cons_succ]
  exact ih
theorem val_zeros : ∀ {l : List Nat}, (∀ j : Nat, l[j]?.getD 0 = 0) → val l = 0
 | [], _ => rfl
 | d :: l, h => by
  have h0 := h 0
  simp at h0
  rw [val_cons, h0, val_zeros fun j => by have := h (j + 1); simpa using this]
theorem least_digs {l : List Nat} (hw : Ws l) : wdsL ((halvesL l).take (tl (halvesL l) (2 * l.length))) ((tl (halvesL l) (2 * l.length) + 1) / 2) = digs (val l) := by
 have hle := tl_le (halvesL l) (2 * l.length)
 have hz : ∀ i : Nat, tl (halvesL l) (2 * l.length) ≤ i → (halvesL l)[i]?.getD 0 = 0 := fun i hi => by
  by_cases h : i < 2 * l.length
  ·exact tl_zero _ hi h
  ·rw [List.getElem?_eq_none (by rw [halvesL_len]; omega)]; rfl
 have hlast := fun j => @tl_last (halvesL l) (2 * l.length) j
 generalize tl (halvesL l) (2 * l.length) = k at *
 have hm : (k + 1) / 2 ≤ l.length := by omega
 have hw1 : ∀ j, j < (k + 1) / 2 → wd2 ((halvesL l).take k) j = l[j]?.getD 0 := fun j hj => by
  obtain ⟨g1, g2⟩ := halvesL_get l j
  have hd := hw.get j
  have a1 : ((halvesL l).take k)[2 * j]?.getD 0 = ((l[j]?.getD 0 : Nat) : Int) % 65536 := by rw [List.getElem?_take, if_pos (by omega)]; exact g1
  have a2 : ((halvesL l).take k)[2 * j + 1]?.getD 0 = ((l[j]?.getD 0 : Nat) : Int) / 65536 := by
   rw [List.getElem?_take]
   split
   ·exact g2
   ·have := hz (2 * j + 1) (by omega)
    rw [← g2, this]
    rfl
  unfold wd2
  rw [a1, a2]
  omega
 have he : wdsL ((halvesL l).take k) ((k + 1) / 2) = l.take ((k + 1) / 2) := by
  apply List.ext_getElem (by simp [wdsL]; omega)
  intro j h1 h2
  have hj : j < (k + 1) / 2 := by simpa [wdsL] using h1
  have := hw1 j hj
  rw [List.getElem?_eq_getElem (by omega)] at this
  simpa [wdsL] using this
 rw [he]
 have hv : val l = val (l.take ((k + 1) / 2)) := by
  rw [val_take_drop l _ hm, val_zeros (l := l.drop ((k + 1) / 2)) fun j => ?_, Nat.mul_zero, Nat.add_zero]
  rw [List.getElem?_drop]
  obtain ⟨g1, g2⟩ := halvesL_get l ((k + 1) / 2 + j)
  have z1 := hz (2 * ((k + 1) / 2 + j)) (by omega)
  have z2 := hz (2 * ((k + 1) / 2 + j) + 1) (by omega)
  omega
 rw [hv, digs_val (hw.take _)]
 intro hl
 by_cases h0 : k = 0
 ·subst h0
  simp at hl
 ·obtain ⟨j, rfl⟩ : ∃ j, k = j + 1 := ⟨k - 1, by omega⟩
  have hne := hlast j rfl
  have hlen : (l.take ((j + 1 + 1) / 2)).length = (j + 1 + 1) / 2 := by simp; omega
  rw [List.getLast?_eq_getElem?, hlen, List.getElem?_take, if_pos (by omega)] at hl
  obtain ⟨g1, g2⟩ := halvesL_get l ((j + 1 + 1) / 2 - 1)
  rw [hl] at g1 g2
  simp at g1 g2
  by_cases hp : j = 2 * ((j + 1 + 1) / 2 - 1)
  ·rw [← hp] at g1; exact hne g1
  ·have : j = 2 * ((j + 1 + 1) / 2 - 1) + 1 := by omega
   rw [← this] at g2; exact hne g2

end Go.Proofs.YtjajigkacccdgaaGreat

namespace Go.Proofs.YtjajigkacccdgaaGreat
set_option linter.unusedVariables false
set_option linter.unusedSimpArgs false
open Go.RowKit
open Wd

theorem RetOf.toZ {w w' : World} {neg : Bool} {l : List Nat} {e : Ending} (hl : Ws l) (h : RetOf w neg (digs (val l)) e w') : RetZ w (sg neg (val l)) e w' := by
 obtain ⟨A, c, he, h1, h2, h3, h4⟩ := h
 refine ⟨A, (digs (val l)).length, c, ?_, h1, by rw [sg_natAbs]; exact h2, h3, h4⟩
 rw [he]
 by_cases hz : val l = 0
 ·rw [hz, sg_zero, digs_zero]
  simp
 ·have hp : 0 < (digs (val l)).length := by
   rcases Nat.eq_zero_or_pos (digs (val l)).length with h0 | h0
   ·have := val_digs (val l)
    rw [List.eq_nil_of_length_eq_zero h0] at this
    exact absurd this.symm hz
   ·exact h0
  rw [sg_neg hz, decide_eq_true hp, Bool.and_true]
theorem halvesL_Dg {l : List Nat} (hw : Ws l) : Dg (halvesL l) := fun i => by
 obtain ⟨g1, g2⟩ := halvesL_get l (i / 2)
 have hd := hw.get (i / 2)
 rcases Nat.mod_two_eq_zero_or_one i with h | h
 ·rw [show 2 * (i / 2) = i by omega] at g1
  omega
 ·rw [show 2 * (i / 2) + 1 = i by omega] at g2
  omega
theorem Dg.take {hs : List Int} (h : Dg hs) (k : Nat) : Dg (hs.take k) := fun i => by
 rw [List.getElem?_take]
 split
 ·exact h i
 ·simp

set_option maxRecDepth 100000 in
set_option maxHeartbeats 1000000 in
theorem rleast_any (neg : Bool) (A : Option Addr) (n c : Nat) (l : List Nat) (w : World) (h : Wat w A n l) (hm : n ≤ 10000000000) :
  Calls Tryz.prog 134 #[.agg #[.bool neg, .slice A n c]] w (RetZ w (sg neg (val l))) := by
 have hF : ∀ (W : World) A1 c1, IsAt W A1 (tl (halvesL l) (2 * n)) ((halvesL l).take (tl (halvesL l) (2 * n))) → tl (halvesL l) (2 * n) ≤ c1 →
   Calls Tryz.prog 184 #[.bool neg, .slice A1 (tl (halvesL l) (2 * n)) c1] W (RetZ W (sg neg (val l))) := fun W A1 c1 hI hc => by
  have hk := tl_le (halvesL l) (2 * n)
  refine (rof_any neg A1 _ c1 _ W hI hc (by omega) ((halvesL_Dg h.2.1).take _)).mono fun e w' hr => ?_
  rw [← h.1] at hr hk
  rw [tl_idem, List.take_take, Nat.min_self, least_digs h.2.1] at hr
  exact hr.toZ h.2.1
 go_enter Tryz.func134, Tryz.ntmps134
 go_wp2_with fail
 obtain ⟨hB0, hB1, hBW, hsz⟩ := pre2 w 40 #[.bool neg, .slice A n c] 40 #[.bool false, .slice none 0 0]
 generalize (w.alloc (.cells #[.bool neg, .slice A n c] 40)).alloc (.cells #[.bool false, .slice none 0 0] 40) = W at *
 have HSZ := Lib.hid hsz
 have HFF := Lib.hid hF
 clear hsz hF
 have s4 := RS.start hB1
 have hw : ∀ w', RS (w.heap.size + 1) 40 W w' → Wat w' A n l := fun w' hk => h.below (hBW.trans (hk.1.mono (by omega)))
 have HW := Lib.hid hw
 clear hw
 have hS : ∀ w', RS (w.heap.size + 1) 40 W w' → (w'.cell? ⟨w.heap.size, 0, none⟩ = some (.bool neg) ∧ w'.cell? ⟨w.heap.size, 1, none⟩ = some (.slice A n c)) ∧ RS (w.heap.size + 1) 40 W w' := fun w' hk => ⟨⟨(hk.blk hB0 (by omega)).cell 0, (hk.blk hB0 (by omega)).cell 1⟩, hk⟩
 have HS := Lib.hid hS
 clear hS
 clear hB0 hB1
 go_region_held3 (fun w' => (w'.cell? ⟨w.heap.size, 0, none⟩ = some (.bool neg) ∧ w'.cell? ⟨w.heap.size, 1, none⟩ = some (.slice A n c)) ∧ RS (w.heap.size + 1) 40 W w')
  (first | exact HS.out _ (by assumption) | exact HS.out _ (RS.drew (by assumption)) | exact HS.out _ (RS.drew (And.right (by assumption))) | exact HS.out _ (RS.set (And.right (by assumption)) _ _))
  (first
   | (go_at_call 186; have hk := And.right ‹_ ∧ RS (w.heap.size + 1) 40 W _›; refine (rhalves_any A n c l _ (HW.out _ hk) (by omega)).mono ?_; rintro e w1 ⟨A1, c1, rfl, hI1, hb1, hc1⟩; have hr1 := hk.call hb1)
   | (go_at_call 184; have hk := And.right ‹_ ∧ RS (w.heap.size + 1) 40 W _›; refine (HFF.out _ A1 c1 hI1 hc1).mono ?_; intro e w2 hr; obtain ⟨A2, k2, c2, rfl, hk2, hW2, hF2, hb2⟩ := hr; have hr2 := hr1.call hb2; obtain ⟨_, _, c0, c1, f0, f1⟩ := hr2.two))
 have hfin := retZ_close hBW (by omega) (by obtain ⟨_, _, _, hx⟩ := hr1; exact hx.lt) hr2 hk2 hW2 hF2
 obtain ⟨d0, d1, -, -⟩ := (hr2.done (.bool (decide (sg neg (val l) < 0))) (.slice A2 k2 c2)).two
 have HF := Lib.hid hfin
 clear hfin
 go_wp2
 refine bodyPost_ret (v := .agg #[.bool (decide (sg neg (val l) < 0)), .slice A2 k2 c2]) ?_ rfl HF.out
 simp [results, Tryz.results134, go_sem, d0, d1]

end Go.Proofs.YtjajigkacccdgaaGreat

namespace Go.Proofs.YtjajigkacccdgaaGreat
set_option linter.unusedVariables false
set_option linter.unusedSimpArgs false
open Go.RowKit
open Wd

theorem blk_wat2 {w : World} {g d d' : Nat} {t : TypeId} (h : Blk w g t #[.int .u32 ((d : Nat) : Int), .int .u32 ((d' : Nat) : Int)]) (h1 : d < 4294967296) (h2 : d' < 4294967296) : Wat w (some ⟨g, 0, none⟩) 2 [d, d'] := by
 refine ⟨rfl, ?_, fun _ => ⟨g, 0, rfl, h.lt, fun j hj => ?_⟩⟩
 ·intro x hx
  simp at hx
  rcases hx with rfl | rfl <;> assumption
 ·obtain ⟨a, b, _, _⟩ := h.two
  rcases j with _ | _ | j
  ·exact a
  ·exact b
  ·omega
theorem val_two (u : Nat) : val [u % 4294967296, u / 4294967296] = u := by
 rw [val_cons, val_cons, val_nil]
 omega

set_option maxRecDepth 100000 in
set_option maxHeartbeats 1000000 in
theorem rfrom_any (z : Int) (w : World) (h1 : -9223372036854775808 ≤ z) (h2 : z ≤ 9223372036854775807) :
  Calls Tryz.prog 87 #[.int .i64 z] w (RetZ w z) := by
 by_cases hz : z < 0
 ·have hw : IntKind.u64.wrap (-(IntKind.u64.wrap z)) = (z.natAbs : Int) := by
   rw [IntKind.wrap_u64, IntKind.wrap_u64]; omega
  have hw2 : IntKind.u64.wrap ((z.natAbs : Int).tdiv 4294967296) = ((z.natAbs / 4294967296 : Nat) : Int) := by
   rw [IntKind.wrap_u64, Int.tdiv_eq_ediv_of_nonneg (by omega)]; omega
  have hm1 : (z.natAbs : Int).tmod 4294967296 % 4294967296 = ((z.natAbs % 4294967296 : Nat) : Int) := by
   rw [Int.tmod_eq_emod_of_nonneg (by omega)]; omega
  have hm2 : ((z.natAbs / 4294967296 : Nat) : Int) % 4294967296 = ((z.natAbs / 4294967296 : Nat) : Int) := by omega
  have hs : sg true (val [z.natAbs % 4294967296, z.natAbs / 4294967296]) = z := by rw [val_two]; unfold sg; simp; omega
  have hd : z.natAbs % 4294967296 < 4294967296 := by omega
  have hd' : z.natAbs / 4294967296 < 4294967296 := by omega
  have HW := Lib.hid hw
  have HW2 := Lib.hid hw2
  have HM1 := Lib.hid hm1
  have HM2 := Lib.hid hm2
  clear hw hw2 hm1 hm2 h1 h2
  go_enter Tryz.func87, Tryz.ntmps87
  go_wp2_with fail
  rw [HW.out, HW2.out, HM1.out, HM2.out]
  generalize z.natAbs % 4294967296 = d at *
  generalize z.natAbs / 4294967296 = d' at *
  clear HW HW2 HM1 HM2
  clear hz
  have HZ := Lib.hid hs
  have hg := (Blk.new w 40 #[.bool false, .slice none 0 0]).alloc (.cells #[.int .u32 ((d : Nat) : Int), .int .u32 ((d' : Nat) : Int)] 59)
  have hu := blk_wat2 (Blk.new1 w (.cells #[.bool false, .slice none 0 0] 40) 59 #[.int .u32 ((d : Nat) : Int), .int .u32 ((d' : Nat) : Int)]) hd hd'
  have hbw : Below w.heap.size w ((w.alloc (.cells #[.bool false, .slice none 0 0] 40)).alloc (.cells #[.int .u32 ((d : Nat) : Int), .int .u32 ((d' : Nat) : Int)] 59)) := ((Below.refl _ _).alloc (Nat.le_refl _) _).alloc (by simp) _
  have hsz : ((w.alloc (.cells #[.bool false, .slice none 0 0] 40)).alloc (.cells #[.int .u32 ((d : Nat) : Int), .int .u32 ((d' : Nat) : Int)] 59)).heap.size = w.heap.size + 2 := by simp
  generalize (w.alloc (.cells #[.bool false, .slice none 0 0] 40)).alloc (.cells #[.int .u32 ((d : Nat) : Int), .int .u32 ((d' : Nat) : Int)] 59) = W at *
  refine (rleast_any _ _ 2 2 [d, d'] W hu (by omega)).mono ?_
  rw [HZ.out]
  rintro e w1 ⟨A, k, c, rfl, hk, hW, hF, hB⟩
  have hg1 := hg.below hB (by omega)
  have hfin := retZ_close hbw (by omega) (by omega) ⟨hB.mono (by omega), _, _, hg1⟩ hk hW hF
  have hg2 := hg1.set2 (.bool (decide (z < 0))) (.slice A k c)
  obtain ⟨c0, c1, f0, f1⟩ := hg1.two
  have HF := Lib.hid hfin
  clear hfin hu hbw hsz hB hW hF hg hg1
  generalize decide (z < 0) = zb at *
  go_wp2
  obtain ⟨d0, d1, -, -⟩ := hg2.two
  refine bodyPost_ret (v := .agg #[.bool zb, .slice A k c]) ?_ rfl HF.out
  simp [results, Tryz.results87, go_sem, d0, d1]
 ·have hn : z = (z.natAbs : Int) := by omega
  generalize z.natAbs = n at *
  have hm1 : z % 4294967296 = ((n % 4294967296 : Nat) : Int) := by omega
  have hm2 : z / 4294967296 = ((n / 4294967296 : Nat) : Int) := by omega
  have hdz : decide (z < 0) = false := decide_eq_false hz
  have hs : sg false (val [n % 4294967296, n / 4294967296]) = z := by rw [val_two, hn]; unfold sg; simp
  have hd : n % 4294967296 < 4294967296 := by omega
  have hd' : n / 4294967296 < 4294967296 := by omega
  have HM1 := Lib.hid hm1
  have HM2 := Lib.hid hm2
  have HDZ := Lib.hid hdz
  clear hm1 hm2 hdz hn
  go_enter Tryz.func87, Tryz.ntmps87
  go_wp2_with fail
  rw [HM1.out, HM2.out]
  clear HM1 HM2 hz HDZ
  generalize n % 4294967296 = d at *
  generalize n / 4294967296 = d' at *
  have HZ := Lib.hid hs
  have hg := (Blk.new w 40 #[.bool false, .slice none 0 0]).alloc (.cells #[.int .u32 ((d : Nat) : Int), .int .u32 ((d' : Nat) : Int)] 59)
  have hu := blk_wat2 (Blk.new1 w (.cells #[.bool false, .slice none 0 0] 40) 59 #[.int .u32 ((d : Nat) : Int), .int .u32 ((d' : Nat) : Int)]) hd hd'
  have hbw : Below w.heap.size w ((w.alloc (.cells #[.bool false, .slice none 0 0] 40)).alloc (.cells #[.int .u32 ((d : Nat) : Int), .int .u32 ((d' : Nat) : Int)] 59)) := ((Below.refl _ _).alloc (Nat.le_refl _) _).alloc (by simp) _
  have hsz : ((w.alloc (.cells #[.bool false, .slice none 0 0] 40)).alloc (.cells #[.int .u32 ((d : Nat) : Int), .int .u32 ((d' : Nat) : Int)] 59)).heap.size = w.heap.size + 2 := by simp
  generalize (w.alloc (.cells #[.bool false, .slice none 0 0] 40)).alloc (.cells #[.int .u32 ((d : Nat) : Int), .int .u32 ((d' : Nat) : Int)] 59) = W at *
  refine (rleast_any _ _ 2 2 [d, d'] W hu (by omega)).mono ?_
  rw [HZ.out]
  rintro e w1 ⟨A, k, c, rfl, hk, hW, hF, hB⟩
  have hg1 := hg.below hB (by omega)
  have hfin := retZ_close hbw (by omega) (by omega) ⟨hB.mono (by omega), _, _, hg1⟩ hk hW hF
  have hg2 := hg1.set2 (.bool (decide (z < 0))) (.slice A k c)
  obtain ⟨c0, c1, f0, f1⟩ := hg1.two
  have HF := Lib.hid hfin
  clear hfin hu hbw hsz hB hW hF hg hg1
  generalize decide (z < 0) = zb at *
  go_wp2
  obtain ⟨d0, d1, -, -⟩ := hg2.two
  refine bodyPost_ret (v := .agg #[.bool zb, .slice A k c]) ?_ rfl HF.out
  simp [results, Tryz.results87, go_sem, d0, d1]

end Go.Proofs.YtjajigkacccdgaaGreat

namespace Go.Proofs.YtjajigkacccdgaaGreat
set_option linter.unusedVariables false
set_option linter.unusedSimpArgs false
open Go.RowKit
open Wd

set_option maxHeartbeats 1000000 in
theorem rint_any (z : Int) (w : World) (h1 : -9223372036854775808 ≤ z) (h2 : z ≤ 9223372036854775807) :
  Calls Tryz.prog 37 #[.int .i64 z] w (RetQ w (z : Rat)) := by
 have T := Lib.hid (fun W => rfrom_any z W h1 h2)
 have en : ((z : Int) : Rat).num = z := Rat.num_intCast z
 have ed : ((z : Int) : Rat).den = 1 := Rat.den_intCast z
 rw [← en] at T
 rw [en] at T
 generalize ((z : Int) : Rat) = q at *
 have ED := Lib.hid ed
 have EN := Lib.hid en
 clear ed en h1 h2
 go_enter Tryz.func37, Tryz.ntmps37
 go_wp2_with fail
 obtain ⟨hB0, hBW, hsz⟩ := pre1 w 42 #[.bool false, .slice none 0 0, .bool false, .slice none 0 0]
 generalize w.alloc (.cells #[.bool false, .slice none 0 0, .bool false, .slice none 0 0] 42) = W at *
 have HSZ := Lib.hid hsz
 clear hsz
 refine (T.out W).mono ?_
 rw [← EN.out]
 rintro e w3 ⟨A3, k3, c3, rfl, hk3, hW3, hF3, hb3⟩
 have hr3 := (RS4.start hB0).call hb3
 obtain ⟨_, _, _, _, c0, c1, c2, c4, f0, f1, f2, f3⟩ := hr3.four
 have hW4 : Wat w3 none 0 (denW q.den) := by rw [ED.out]; exact Wat.nil
 have hF4 : Fresh W.heap.size w3 none 0 := Fresh.nil
 have hfin := retQ_close (c' := 0) hBW (Nat.le_refl _) (by have := HSZ.out; omega) hr3 hk3 (Nat.le_refl 0) hW3 hW4 hF3 hF4
 obtain ⟨d0, d1, d2, d3, -, -, -, -⟩ := (hr3.done (.bool (decide (q.num < 0))) (.slice A3 k3 c3) (.bool false) (.slice none 0 0)).four
 have HF := Lib.hid hfin
 clear hfin hB0 hr3 hW3 hF3 hW4 hF4 hb3
 go_wp2
 refine bodyPost_ret (v := .agg #[.bool (decide (q.num < 0)), .slice A3 k3 c3, .bool false, .slice none 0 0]) ?_ rfl HF.out
 simp [results, Tryz.results37, go_sem, d0, d1, d2, d3]


set_option maxRecDepth 100000 in
set_option maxHeartbeats 1000000 in
theorem rsame_yes (neg : Bool) (A A' : Option Addr) (n c c' : Nat) (l : List Nat) (w : World) (h : Wat w A n l) (h' : Wat w A' n l) (hm : n ≤ 1000000) :
  Calls Tryz.prog 86 #[.agg #[.bool neg, .slice A n c], .agg #[.bool neg, .slice A' n c']] w fun e w' => e = .returned (.bool true) ∧ Below w.heap.size w w' := by
 have HX := Lib.hid h
 have HY := Lib.hid h'
 have hne : ((n : Int) != (n : Int)) = false := by simp
 have hne2 : (!neg == neg) = false := by cases neg <;> rfl
 have hne3 : (neg != neg) = false := by cases neg <;> rfl
 clear h h'
 go_enter Tryz.func86, Tryz.ntmps86
 go_wp2_with fail
 obtain ⟨hB0, hB1, hBW, hsz⟩ := pre2 w 40 #[.bool neg, .slice A n c] 40 #[.bool neg, .slice A' n c']
 generalize (w.alloc (.cells #[.bool neg, .slice A n c] 40)).alloc (.cells #[.bool neg, .slice A' n c'] 40) = W at *
 have HSZ := Lib.hid hsz
 clear hsz
 have HB0 := Lib.hid hB0
 have HB1 := Lib.hid hB1
 have HBW := Lib.hid hBW
 clear hB0 hB1 hBW
 go_loopw [5] (fun t wr => ∃ k : Nat, k ≤ n ∧ t = .int .i64 k ∧ Hid (Below W.heap.size W wr)) (fun t _ => n - (intOf t).toNat)
 case atStart => exact ⟨0, Nat.zero_le _, rfl, Below.refl _ _⟩
 case round =>
  obtain ⟨k, hk, rfl, hB⟩ := hrel
  obtain ⟨a0, a1, -, -⟩ := (HB0.out.below hB.out HB0.out.lt).two
  obtain ⟨b0, b1, -, -⟩ := (HB1.out.below hB.out HB1.out.lt).two
  by_cases hlt : k < n
  ·obtain ⟨b, o, rfl, hb, hc⟩ := HX.out.2.2 (by omega)
   obtain ⟨b', o', rfl, hb', hc'⟩ := HY.out.2.2 (by omega)
   have c1 := ((HBW.out.trans (hB.out.mono HBW.out.size)).cell (p := ⟨b, o + k, none⟩) hb).trans (hc k hlt)
   have c2 := ((HBW.out.trans (hB.out.mono HBW.out.size)).cell (p := ⟨b', o' + k, none⟩) hb').trans (hc' k hlt)
   have hki1 : (0 : Int) ≤ (k : Int) := by omega
   have hki2 : (k : Int) < (n : Int) := by omega
   clear hc hc'
   have HBD := fun q => below_drewN hB.out q
   have HBD := Lib.hid HBD
   generalize ((l[k]?.getD 0 : Nat) : Int) = x at *
   have d1 : (x != x) = false := by simp
   clear hB
   go_wp2
   go_quiet (fail)
   go_wp2
   go_roundw
   case rel => exact ⟨k + 1, by omega, by go_num, HBD.out _⟩
   case measure => simp [intOf]; omega
  ·obtain rfl : k = n := by omega
   have hfin : Below w.heap.size w wr := HBW.out.trans (hB.out.mono HBW.out.size)
   have HF := Lib.hid hfin
   clear hfin
   go_wp2
   go_ret
   exact ⟨rfl, HF.out⟩

end Go.Proofs.YtjajigkacccdgaaGreat

namespace Go.Proofs.YtjajigkacccdgaaGreat
set_option linter.unusedVariables false
set_option linter.unusedSimpArgs false
open Go.RowKit
open Wd

set_option maxRecDepth 100000 in
set_option maxHeartbeats 1000000 in
theorem ris_yes (q : Rat) (A B A' B' : Option Addr) (k c k' c' d d' : Nat) (w : World) (h : WQ w q A k c A' k' c') (h' : WQ w q B k d B' k' d') (hk : k ≤ 1000000) (hk' : k' ≤ 1000000) :
  Calls Tryz.prog 34 #[.agg #[.bool (decide (q.num < 0)), .slice A k c, .bool false, .slice A' k' c'], .agg #[.bool (decide (q.num < 0)), .slice B k d, .bool false, .slice B' k' d']] w fun e w' => e = .returned (.bool true) ∧ Below w.heap.size w w' := by
 have T1 := Lib.hid (fun W (hW : Below w.heap.size w W) => rsame_yes (decide (q.num < 0)) A B k c d _ W (h.2.2.1.below hW) (h'.2.2.1.below hW) hk)
 have T2 := Lib.hid (fun W (hW : Below w.heap.size w W) => rsame_yes false A' B' k' c' d' _ W (h.2.2.2.below hW) (h'.2.2.2.below hW) hk')
 generalize decide (q.num < 0) = s at *
 clear h h'
 go_enter Tryz.func34, Tryz.ntmps34
 go_wp2_with fail
 obtain ⟨hB0, hB1, hBW, hsz⟩ := pre2 w 42 #[.bool s, .slice A k c, .bool false, .slice A' k' c'] 42 #[.bool s, .slice B k d, .bool false, .slice B' k' d']
 generalize (w.alloc (.cells #[.bool s, .slice A k c, .bool false, .slice A' k' c'] 42)).alloc (.cells #[.bool s, .slice B k d, .bool false, .slice B' k' d'] 42) = W at *
 have HSZ := Lib.hid hsz
 clear hsz
 refine (T1.out W hBW).mono ?_
 rintro e w1 ⟨rfl, hb1⟩
 have hB0 := hB0.below hb1 hB0.lt
 have hB1 := hB1.below hb1 hB1.lt
 have hb2 := hBW.trans (hb1.mono hBW.size)
 obtain ⟨a0, a1, a2, a3, -, -, -, -⟩ := hB0.four
 obtain ⟨b0, b1, b2, b3, -, -, -, -⟩ := hB1.four
 have hT2 := T2.out w1 hb2
 have HB2 := Lib.hid hb2
 have HT2 := Lib.hid hT2
 clear hb1 hb2 hBW T1 T2 hT2 hB0 hB1
 go_wp2_with fail
 refine HT2.out.mono ?_
 rintro e w2 ⟨rfl, hb3⟩
 have hfin := HB2.out.trans (hb3.mono HB2.out.size)
 have HF := Lib.hid hfin
 clear hfin hb3 HT2
 go_wp2
 go_ret
 exact ⟨rfl, HF.out⟩

/-- A row of canonical rationals, wherever it lies. -/
def QsAt (w : World) (A : Option Addr) (n : Nat) (ps : List Rat) : Prop :=
 ps.length = n ∧ (n ≠ 0 → ∃ b o, A = some ⟨b, o, none⟩ ∧ b < w.heap.size ∧ ∀ j, j < n → ∃ A1 k c A2 k' c',
  w.cell? ⟨b, o + j * 4, none⟩ = some (.bool (decide ((ps[j]?.getD 0).num < 0))) ∧ w.cell? ⟨b, o + j * 4 + 1, none⟩ = some (.slice A1 k c) ∧ w.cell? ⟨b, o + j * 4 + 2, none⟩ = some (.bool false) ∧ w.cell? ⟨b, o + j * 4 + 3, none⟩ = some (.slice A2 k' c') ∧
  WQ w (ps[j]?.getD 0) A1 k c A2 k' c')
theorem QsAt.below {w w' : World} {A : Option Addr} {n : Nat} {ps : List Rat} (h : QsAt w A n ps) (hb : Below w.heap.size w w') : QsAt w' A n ps := by
 refine ⟨h.1, fun h0 => ?_⟩
 obtain ⟨b, o, e, hlt, hc⟩ := h.2 h0
 refine ⟨b, o, e, Nat.lt_of_lt_of_le hlt hb.size, fun j hj => ?_⟩
 obtain ⟨A1, k, c, A2, k', c', g0, g1, g2, g3, g4⟩ := hc j hj
 exact ⟨A1, k, c, A2, k', c', (hb.cell (p := ⟨b, _, none⟩) hlt).trans g0, (hb.cell (p := ⟨b, _, none⟩) hlt).trans g1, (hb.cell (p := ⟨b, _, none⟩) hlt).trans g2, (hb.cell (p := ⟨b, _, none⟩) hlt).trans g3, g4.below hb⟩
theorem QRow.at {w : World} {g n : Nat} {ps : List Rat} (h : QRow w g n ps) : QsAt w (some ⟨g, 0, none⟩) n ps := by
 obtain ⟨h1, cs, h2, h3, h4, h5⟩ := h
 refine ⟨h1, fun h0 => ⟨g, 0, rfl, h2.lt, fun j hj => ?_⟩⟩
 obtain ⟨A, k, c, A', k', c', e0, e1, e2, e3, g1, g2, g3, g4⟩ := h5 j hj
 refine ⟨A, k, c, A', k', c', ?_, ?_, ?_, ?_, g1, g2, g3, g4⟩
 ·rw [Nat.zero_add, h2.cell]; exact e0
 ·rw [Nat.zero_add, h2.cell]; exact e1
 ·rw [Nat.zero_add, h2.cell]; exact e2
 ·rw [Nat.zero_add, h2.cell]; exact e3
theorem Wat.len {w : World} {A : Option Addr} {n : Nat} {l : List Nat} (h : Wat w A n l) : n = l.length := h.1.symm

set_option maxRecDepth 100000 in
set_option maxHeartbeats 1000000 in
theorem rrows_yes (A B : Option Addr) (n c d : Nat) (ps : List Rat) (w : World) (h : QsAt w A n ps) (h' : QsAt w B n ps) (hn : n ≤ 1000000) (hs : ∀ p ∈ ps, (digs p.num.natAbs).length ≤ 1000000 ∧ (denW p.den).length ≤ 1000000) :
  Calls Tryz.prog 33 #[.slice A n c, .slice B n d] w fun e w' => e = .returned (.bool true) ∧ Below w.heap.size w w' := by
 have HX := Lib.hid h
 have HY := Lib.hid h'
 have HSZ := Lib.hid hs
 have hne : ((n : Int) != (n : Int)) = false := by simp
 clear h h' hs
 go_enter Tryz.func33, Tryz.ntmps33
 go_wp2_with fail
 go_loopw [5] (fun t wr => ∃ k : Nat, k ≤ n ∧ t = .int .i64 k ∧ Hid (Below w.heap.size w wr)) (fun t _ => n - (intOf t).toNat)
 case atStart => exact ⟨0, Nat.zero_le _, rfl, Below.refl _ _⟩
 case round =>
  obtain ⟨k, hk, rfl, hB⟩ := hrel
  by_cases hlt : k < n
  ·obtain ⟨b, o, rfl, hb, hc⟩ := HX.out.2 (by omega)
   obtain ⟨b', o', rfl, hb', hc'⟩ := HY.out.2 (by omega)
   obtain ⟨A1, k1, d1, A2, k2, d2, e0, e1, e2, e3, e4⟩ := hc k hlt
   obtain ⟨B1, k3, d3, B2, k4, d4, f0, f1, f2, f3, f4⟩ := hc' k hlt
   have hp := HSZ.out (ps[k]?.getD 0) (by rw [List.getElem?_eq_getElem (by rw [HX.out.1]; exact hlt)]; exact List.getElem_mem _)
   obtain rfl : k1 = k3 := e4.2.2.1.len.trans f4.2.2.1.len.symm
   obtain rfl : k2 = k4 := e4.2.2.2.len.trans f4.2.2.2.len.symm
   have T := fun W (hW : Kp wr W) => ris_yes _ A1 B1 A2 B2 k1 d1 k2 d2 d3 d4 W ((e4.below hB.out).below hW) ((f4.below hB.out).below hW) (by rw [e4.2.2.1.len]; exact hp.1) (by rw [e4.2.2.2.len]; exact hp.2)
   have HT := Lib.hid T
   have hki1 : (0 : Int) ≤ (k : Int) := by omega
   have hki2 : (k : Int) < (n : Int) := by omega
   have c0 := (hB.out.cell (p := ⟨b, o + k * 4, none⟩) hb).trans e0
   have c1 := (hB.out.cell (p := ⟨b, o + k * 4 + 1, none⟩) hb).trans e1
   have c2 := (hB.out.cell (p := ⟨b, o + k * 4 + 2, none⟩) hb).trans e2
   have c3 := (hB.out.cell (p := ⟨b, o + k * 4 + 3, none⟩) hb).trans e3
   have g0 := (hB.out.cell (p := ⟨b', o' + k * 4, none⟩) hb').trans f0
   have g1 := (hB.out.cell (p := ⟨b', o' + k * 4 + 1, none⟩) hb').trans f1
   have g2 := (hB.out.cell (p := ⟨b', o' + k * 4 + 2, none⟩) hb').trans f2
   have g3 := (hB.out.cell (p := ⟨b', o' + k * 4 + 3, none⟩) hb').trans f3
   generalize decide ((ps[k]?.getD 0).num < 0) = s at *
   have hb1 : b < wr.heap.size := Nat.lt_of_lt_of_le hb hB.out.size
   have hb1' : b' < wr.heap.size := Nat.lt_of_lt_of_le hb' hB.out.size
   have hS : ∀ w', Kp wr w' → (w'.cell? ⟨b, o + k * 4, none⟩ = some (.bool s) ∧ w'.cell? ⟨b, o + k * 4 + 1, none⟩ = some (.slice A1 k1 d1) ∧ w'.cell? ⟨b, o + k * 4 + 2, none⟩ = some (.bool false) ∧ w'.cell? ⟨b, o + k * 4 + 3, none⟩ = some (.slice A2 k2 d2) ∧ w'.cell? ⟨b', o' + k * 4, none⟩ = some (.bool s) ∧ w'.cell? ⟨b', o' + k * 4 + 1, none⟩ = some (.slice B1 k1 d3) ∧ w'.cell? ⟨b', o' + k * 4 + 2, none⟩ = some (.bool false) ∧ w'.cell? ⟨b', o' + k * 4 + 3, none⟩ = some (.slice B2 k2 d4)) ∧ Kp wr w' := fun w' hk => ⟨⟨(hk.cell (p := ⟨b, _, none⟩) hb1).trans c0, (hk.cell (p := ⟨b, _, none⟩) hb1).trans c1, (hk.cell (p := ⟨b, _, none⟩) hb1).trans c2, (hk.cell (p := ⟨b, _, none⟩) hb1).trans c3, (hk.cell (p := ⟨b', _, none⟩) hb1').trans g0, (hk.cell (p := ⟨b', _, none⟩) hb1').trans g1, (hk.cell (p := ⟨b', _, none⟩) hb1').trans g2, (hk.cell (p := ⟨b', _, none⟩) hb1').trans g3⟩, hk⟩
   have HS := Lib.hid hS
   have k0 := Kp.refl wr
   clear hc hc' T e0 e1 e2 e3 e4 f0 f1 f2 f3 f4 hp hS c0 c1 c2 c3 g0 g1 g2 g3
   go_wp2_with fail
   go_region_held3 (fun w' => (w'.cell? ⟨b, o + k * 4, none⟩ = some (.bool s) ∧ w'.cell? ⟨b, o + k * 4 + 1, none⟩ = some (.slice A1 k1 d1) ∧ w'.cell? ⟨b, o + k * 4 + 2, none⟩ = some (.bool false) ∧ w'.cell? ⟨b, o + k * 4 + 3, none⟩ = some (.slice A2 k2 d2) ∧ w'.cell? ⟨b', o' + k * 4, none⟩ = some (.bool s) ∧ w'.cell? ⟨b', o' + k * 4 + 1, none⟩ = some (.slice B1 k1 d3) ∧ w'.cell? ⟨b', o' + k * 4 + 2, none⟩ = some (.bool false) ∧ w'.cell? ⟨b', o' + k * 4 + 3, none⟩ = some (.slice B2 k2 d4)) ∧ Kp wr w')
    (first | (with_reducible refine HS.out _ ?_; with_reducible assumption) | (with_reducible refine HS.out _ (Kp.drew ?_); with_reducible assumption) | (with_reducible refine' HS.out _ (Kp.drew (And.right ?_)); rotate_left; with_reducible assumption))
    (first
     | (go_at_call 34; have hk := And.right ‹_ ∧ Kp wr _›; refine (HT.out _ hk).mono ?_; rintro e w2 ⟨rfl, hb3⟩; have hk3 := hk.trans hb3))
   have hfin := hB.out.trans (Below.mono hk3 hB.out.size)
   have HF := Lib.hid hfin
   clear hfin hb3 HT
   go_wp2
   go_roundw
   case rel => exact ⟨k + 1, by omega, by go_num, HF.out⟩
   case measure => simp [intOf]; omega
  ·obtain rfl : k = n := by omega
   go_wp2
   go_ret
   exact ⟨rfl, hB.out⟩

end Go.Proofs.YtjajigkacccdgaaGreat
