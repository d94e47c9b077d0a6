/-
Contracts of slices.Clone at []uint32, and of Neg and Int64 of package whole. No statement of the seat is proved here; no conditions beyond those of each theorem.
-/
import Derived.Test.YtjajigkacccdgaaGreatTaAD
import Derived.OwnWalk
namespace Go.Proofs.YtjajigkacccdgaaGreat
set_option linter.unusedVariables false
set_option linter.unusedSimpArgs false
open Go.RowKit
open Wd

def u32s (l : List Nat) : List Value := l.map fun d : Nat => .int .u32 (d : Int)
theorem u32s_get (l : List Nat) (j : Nat) : (u32s l)[j]? = l[j]?.map fun d : Nat => Value.int .u32 (d : Int) := by simp [u32s]
theorem u32s_one (l : List Nat) : ∀ u ∈ u32s l, u.oneCell' = true := by
 intro u hu
 simp only [u32s, List.mem_map] at hu
 obtain ⟨d, _, rfl⟩ := hu
 rfl
theorem u32s_append (a b : List Nat) : u32s (a ++ b) = u32s a ++ u32s b := by simp [u32s]

theorem addr_add (b o j : Nat) : (⟨b, o, none⟩ : Addr).add j = ⟨b, o + j, none⟩ := by
 unfold Addr.add; split
 ·rename_i h; subst h; rfl
 ·rfl
theorem Wat.news {w : World} {ad : Addr} {n : Nat} {l : List Nat} (h : Wat w (some ad) n l) : ∀ j u, (u32s l)[j]? = some u → w.cell? (ad.add j) = some u := by
 intro j u hu
 rw [u32s_get] at hu
 have hj : j < l.length := by
  rcases Nat.lt_or_ge j l.length with hj | hj
  ·exact hj
  ·rw [List.getElem?_eq_none hj] at hu; cases hu
 have hn := h.1
 obtain ⟨b, o, he, _, hc⟩ := h.2.2 (by omega)
 cases he
 rw [addr_add, hc j (by omega), ← hu, List.getElem?_eq_getElem hj]
 simp

theorem info_u32 : (Tryz.prog.info? 59).map (fun i => (i.zero, i.size, i.bytes)) = some (some (.int .u32 0), 1, 4) := by kernel_rfl

/-- A row of the call's own reads as words. -/
theorem wat_of_own {w : World} {base n : Nat} {v : Value} {l : List Nat} (hl : Ws l) (h : w.ownsRow base 59 1 v n (u32s l)) :
  ∃ A c, v = .slice A n c ∧ n ≤ c ∧ c ≤ maxLen ∧ Wat w A n l ∧ Fresh base w A n := by
 have hlen : l.length = n := by have := h.1; simpa [u32s] using this
 rcases h.2 with ⟨rfl, rfl⟩ | ⟨g, cap, cur, rfl, hbg, hh, hnc, hcm, hcs, hxs⟩
 ·obtain rfl : l = [] := List.eq_nil_of_length_eq_zero hlen
  exact ⟨none, 0, rfl, Nat.le_refl _, Nat.zero_le _, Wat.nil, Fresh.nil⟩
 ·have hlt : g < w.heap.size := by
   rcases Nat.lt_or_ge g w.heap.size with hlt | hge
   ·exact hlt
   ·rw [Array.getElem?_eq_none hge] at hh; cases hh
  refine ⟨_, _, rfl, hnc, hcm, ⟨hlen, hl, fun _ => ⟨g, 0, rfl, hlt, fun j hj => ?_⟩⟩, fun _ => ⟨g, 0, rfl, hbg, fun j _ => ?_⟩⟩
  ·have hc := h.cellAt j (by omega)
   rw [Nat.zero_add, hc, u32s_get, List.getElem?_eq_getElem (by omega)]
   simp
  ·rw [Nat.zero_add]; exact h.frozenAt j

/-- The call returns n words in new memory. -/
def RetW (w : World) (n : Nat) (l : List Nat) (e : Ending) (w' : World) : Prop :=
 ∃ A c, e = .returned (.slice A n c) ∧ n ≤ c ∧ c ≤ maxLen ∧ Wat w' A n l ∧ Fresh w.heap.size w' A n ∧ Below w.heap.size w w'

set_option maxHeartbeats 400000 in
theorem clone_any (A : Option Addr) (n c : Nat) (l : List Nat) (w : World) (h : Wat w A n l) (hm : n ≤ 1000000000000) :
  Calls Tryz.prog 154 #[.slice A n c] w (RetW w n l) := by
 rcases A with _ | ad
 ·have h0 : n = 0 := by
   rcases Nat.eq_zero_or_pos n with h0 | h0
   ·exact h0
   ·obtain ⟨b, o, he, _⟩ := h.2.2 (by omega)
    cases he
  subst h0
  obtain rfl : l = [] := List.eq_nil_of_length_eq_zero h.1
  have hq := fun w => Lib.run_eql_slice_nil (P := Tryz.prog) w 38 59 none 0 c 0 0 Tryz.underlying38
  go_enter Tryz.func154, Tryz.ntmps154
  go_wp2
  go_ret
  exact ⟨none, 0, rfl, Nat.le_refl _, Nat.zero_le _, Wat.nil, Fresh.nil, Below.refl _ _⟩
 ·have hq := fun w => Lib.run_eql_slice_nil (P := Tryz.prog) w 38 59 (some ad) n c 0 0 Tryz.underlying38
  obtain ⟨i0, hi, hz0, hz1, hz2⟩ := info_parts info_u32
  have hlen : (u32s l).length = n * 1 := by simp [u32s, h.1]
  have HL := Lib.hid hlen
  clear hlen
  go_enter Tryz.func154, Tryz.ntmps154
  go_wp2_with (at_builtin; refine wpList_append_own _ rfl _ _ 38 rfl w.heap.size 59 i0 (.int .u32 0) 1 4 Tryz.underlying38 hi hz0 hz1 hz2 rfl (by decide) (.slice (some ⟨w.heap.size, 0, none⟩) 0 0) 0 [] rfl ?c1 ad n c (u32s l) rfl HL.out ?c2 (u32s_one l) ?c3 ?c4 ?c5 ?_)
  case c1 => exact ⟨by simp, .inr ⟨w.heap.size, 0, #[], rfl, Nat.le_refl _, heap_alloc_new _ _, Nat.le_refl _, Nat.zero_le _, rfl, rfl⟩⟩
  case c2 => exact (h.alloc _).news
  case c3 => simp only [maxLen]; omega
  case c4 => omega
  case c5 => simp
  intro v1 w1 hown hgr _
  have hown : w1.ownsRow w.heap.size 59 1 v1 n (u32s l) := by simpa using hown
  obtain ⟨A1, c1, rfl, hk, hcm, hW, hF⟩ := wat_of_own h.2.1 hown
  have hB : Below w.heap.size w w1 := ((Below.refl _ w).alloc (Nat.le_refl _) _).grown hgr (by simp) (fun k hk => by simp [Value.ownBlock] at hk; omega)
  clear hi hz0 hz1 hz2 hown hgr
  go_wp2
  go_ret
  exact ⟨A1, c1, rfl, hk, hcm, hW, hF, hB⟩


/-- From the words that 'build' took over to the canonical integer in new memory. -/
theorem RetZ.of_in {w0 w w' : World} {A : Option Addr} {n c : Nat} {l : List Nat} {neg : Bool} {e : Ending} (hb : Below w0.heap.size w0 w) (hW : Wat w A n l) (hF : Fresh w0.heap.size w A n) (hnc : n ≤ c)
  (h : RetIn w A c (sg neg (val l)) e w') : RetZ w0 (sg neg (val l)) e w' := by
 obtain ⟨A', c', he, h1, h2, hB⟩ := h
 have hna := sg_natAbs neg (val l)
 by_cases hz : sg neg (val l) = 0
 ·obtain ⟨rfl, rfl⟩ := h2 hz
  rw [hna] at he
  have h0 : val l = 0 := by have := congrArg Int.natAbs hz; rw [hna] at this; exact this
  rw [h0, digs_zero] at he
  refine ⟨none, 0, 0, ?_, Nat.le_refl _, ?_, Fresh.nil, hb.trans (hB.mono hb.size)⟩
  ·rw [h0]; exact he
  ·rw [hna, h0, digs_zero]; exact Wat.nil
 ·obtain ⟨rfl, rfl⟩ := h1 hz
  rw [hna] at he
  refine ⟨A', _, c', he, Nat.le_trans hW.trim_le hnc, ?_, ?_, hb.trans (hB.mono hb.size)⟩
  ·rw [hna]; exact hW.trim.below hB
  ·exact (hF.shorter hW.trim_le).keep hW.trim hB

set_option maxHeartbeats 1000000 in
theorem neg_any (neg : Bool) (A : Option Addr) (n c : Nat) (l : List Nat) (w : World) (h : Wat w A n l) (hnc : n ≤ c) (hm : n ≤ 1000000000000) :
  Calls Tryz.prog 140 #[.agg #[.bool neg, .slice A n c]] w (RetZ w (-(sg neg (val l)))) := by
 have hsn : sg (!neg) (val l) = -(sg neg (val l)) := by unfold sg; cases neg <;> simp
 rw [← hsn]
 clear hsn
 go_enter Tryz.func140, Tryz.ntmps140
 go_wp2_with fail
 obtain ⟨hB0, hB1, hBW, hsz⟩ := pre2 w 40 #[.bool neg, .slice A n c] 40 #[.bool false, .slice none 0 0]
 generalize (w.alloc (.cells #[.bool neg, .slice A n c] 40)).alloc (.cells #[.bool false, .slice none 0 0] 40) = W at *
 have HSZ := Lib.hid hsz
 clear hsz
 have s4 := RS.start hB1
 have hw : ∀ w', RS (w.heap.size + 1) 40 W w' → Wat w' A n l := fun w' hk => h.below (hBW.trans (hk.1.mono (by omega)))
 have HW := Lib.hid hw
 clear hw
 have hS : ∀ w', RS (w.heap.size + 1) 40 W w' → (w'.cell? ⟨w.heap.size, 0, none⟩ = some (.bool neg) ∧ w'.cell? ⟨w.heap.size, 1, none⟩ = some (.slice A n c)) ∧ RS (w.heap.size + 1) 40 W w' := fun w' hk => ⟨⟨(hk.blk hB0 (by omega)).cell 0, (hk.blk hB0 (by omega)).cell 1⟩, hk⟩
 have HS := Lib.hid hS
 clear hS
 clear hB0 hB1
 go_region_held3 (fun w' => (w'.cell? ⟨w.heap.size, 0, none⟩ = some (.bool neg) ∧ w'.cell? ⟨w.heap.size, 1, none⟩ = some (.slice A n c)) ∧ RS (w.heap.size + 1) 40 W w')
  (first | exact HS.out _ (by assumption) | exact HS.out _ (RS.drew (by assumption)) | exact HS.out _ (RS.drew (And.right (by assumption))) | exact HS.out _ (RS.set (And.right (by assumption)) _ _))
  (first
   | (go_at_call 141; have hk := And.right ‹_ ∧ RS (w.heap.size + 1) 40 W _›; refine (trim_any A n c l _ (HW.out _ hk) hnc (by omega)).mono ?_; rintro e w1 ⟨rfl, rfl⟩)
   | (go_at_call 154; have hk := And.right ‹_ ∧ RS (w.heap.size + 1) 40 W _›; refine (clone_any A _ c _ _ (HW.out _ hk).trim (by have := h.trim_le; omega)).mono ?_; rintro e w1 ⟨A1, c1, rfl, hk1, hcm1, hW1, hF1, hb1⟩; have hr1 := hk.call hb1)
   | (go_at_call 144; have hk := And.right ‹_ ∧ RS (w.heap.size + 1) 40 W _›; refine (build_any (!neg) A1 _ c1 _ _ hW1 hk1 (by have := h.trim_le; omega)).mono ?_; intro e w2 hr; have hr := RetZ.of_in hb1 hW1 hF1 hk1 hr; rw [val_digs] at hr; obtain ⟨A2, k2, c2, rfl, hk2, hW2, hF2, hb2⟩ := hr; have hr2 := RS.call ‹RS _ _ _ W.drew› hb2; obtain ⟨_, _, c0, c1, f0, f1⟩ := hr2.two))
 have hfin := retZ_close hBW (by omega) (by have := HSZ.out; show _ < W.heap.size; omega) hr2 hk2 hW2 hF2
 obtain ⟨d0, d1, -, -⟩ := (hr2.done (.bool (decide (sg (!neg) (val l) < 0))) (.slice A2 k2 c2)).two
 clear hr
 have HF := Lib.hid hfin
 clear hfin
 go_wp2
 refine bodyPost_ret (v := .agg #[.bool (decide (sg (!neg) (val l) < 0)), .slice A2 k2 c2]) ?_ rfl HF.out
 simp [results, Tryz.results140, go_sem, d0, d1]

end Go.Proofs.YtjajigkacccdgaaGreat
