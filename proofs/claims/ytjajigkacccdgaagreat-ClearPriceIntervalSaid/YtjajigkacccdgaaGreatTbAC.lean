/-
Contracts of FromInt64, Int64, Sign, Neg and Cmp of package whole. Contracts of slices.Clone at []uint32, and of Neg and Int64 of package whole. Contracts of Int64 of package whole, and of the carrier closures. No statement of the seat is proved here; no conditions beyond those of each theorem.
-/
import Derived.Test.YtjajigkacccdgaaGreatTbAB
import Derived.Deep.RegionHeld3
import Derived.OwnWalk
namespace Go.Proofs.YtjajigkacccdgaaGreat
set_option linter.unusedVariables false
set_option linter.unusedSimpArgs false
open Go.RowKit
open Wd


set_option maxHeartbeats 400000 in
theorem fromInt64_any (z : Int) (w : World) (h1 : -9223372036854775808 ≤ z) (h2 : z ≤ 9223372036854775807) :
  Calls Tryz.prog 88 #[.int .i64 z] w (RetZ w z) := by
 by_cases hz : z < 0
 ·have hw : IntKind.u64.wrap (-(IntKind.u64.wrap z)) = (z.natAbs : Int) := by
   rw [IntKind.wrap_u64, IntKind.wrap_u64]; omega
  have HW := Lib.hid hw
  clear hw
  have hsg : sg true z.natAbs = z := by unfold sg; simp; omega
  have HS := Lib.hid hsg
  clear hsg
  go_enter Tryz.func88, Tryz.ntmps88
  go_wp2_with fail
  rw [HW.out]
  have hg := Blk.new w 40 #[.bool false, .slice none 0 0]
  refine (small_any true z.natAbs _ (by omega)).mono ?_
  rw [HS.out]
  rintro e w1 ⟨A, k, c, rfl, hk, hW, hF, hB⟩
  rw [World.size_alloc] at hF
  have hg1 := hg.below hB (by simp)
  have hg2 := hg1.set2 (.bool (decide (z < 0))) (.slice A k c)
  have hb2 := below_set2 (below_of_alloc hB) (Nat.le_refl w.heap.size) (.bool (decide (z < 0))) (.slice A k c)
  obtain ⟨hW2, hF2⟩ := store2_far (.bool (decide (z < 0))) (.slice A k c) hW hF
  obtain ⟨c0, c1, f0, f1⟩ := hg1.two
  clear hg hB HW HS hW hF
  have HZ := Lib.hid hz
  clear hz
  go_wp2
  obtain ⟨d0, d1, -, -⟩ := hg2.two
  refine bodyPost_ret (v := .agg #[.bool (decide (z < 0)), .slice A k c]) ?_ rfl ⟨A, k, c, rfl, hk, hW2, hF2, hb2⟩
  simp [results, Tryz.results88, go_sem, d0, d1]
 ·obtain ⟨n, rfl⟩ : ∃ n : Nat, z = n := ⟨z.natAbs, by omega⟩
  have hsg : sg false n = n := by unfold sg; simp
  have HS := Lib.hid hsg
  clear hsg
  go_enter Tryz.func88, Tryz.ntmps88
  go_wp2_with fail
  have hg := Blk.new w 40 #[.bool false, .slice none 0 0]
  refine (small_any false n _ (by omega)).mono ?_
  rw [HS.out]
  rintro e w1 ⟨A, k, c, rfl, hk, hW, hF, hB⟩
  generalize (n : Int) = z at *
  rw [World.size_alloc] at hF
  have hg1 := hg.below hB (by simp)
  have hg2 := hg1.set2 (.bool (decide (z < 0))) (.slice A k c)
  have hb2 := below_set2 (below_of_alloc hB) (Nat.le_refl w.heap.size) (.bool (decide (z < 0))) (.slice A k c)
  obtain ⟨hW2, hF2⟩ := store2_far (.bool (decide (z < 0))) (.slice A k c) hW hF
  obtain ⟨c0, c1, f0, f1⟩ := hg1.two
  clear hg hB HS hW hF
  have HZ := Lib.hid hz
  clear hz
  go_wp2
  obtain ⟨d0, d1, -, -⟩ := hg2.two
  refine bodyPost_ret (v := .agg #[.bool (decide (z < 0)), .slice A k c]) ?_ rfl ⟨A, k, c, rfl, hk, hW2, hF2, hb2⟩
  simp [results, Tryz.results88, go_sem, d0, d1]

set_option maxHeartbeats 400000 in
theorem sign_any (neg : Bool) (A : Option Addr) (n c : Nat) (l : List Nat) (w : World) (h : Wat w A n l) (hnc : n ≤ c) (hm : n ≤ 9223372036854775807) :
  Calls Tryz.prog 94 #[.agg #[.bool neg, .slice A n c]] w fun e w' => e = .returned (.int .i64 (cmpI (sg neg (val l)) 0)) ∧ Below w.heap.size w w' := by
 by_cases h0 : val l = 0
 ·have e : cmpI (sg neg (val l)) 0 = 0 := by rw [h0, sg_zero]; rfl
  have hd : digs (val l) = [] := by rw [h0, digs_zero]
  have HD := Lib.hid hd
  have E := Lib.hid e
  clear e hd h0
  rw [E.out]
  go_enter Tryz.func94, Tryz.ntmps94
  go_wp2_with fail
  refine (trim_any A n c l _ (h.alloc _) hnc hm).mono ?_
  rw [HD.out]
  rintro e w' ⟨rfl, rfl⟩
  go_wp2
  go_ret
  exact ⟨rfl, (Below.refl _ _).alloc (Nat.le_refl _) _⟩
 ·have hlen : (digs (val l)).length ≠ 0 := fun hh => h0 (digs_nil (List.eq_nil_of_length_eq_zero hh))
  have e : cmpI (sg neg (val l)) 0 = if neg then -1 else 1 := by
   unfold sg; cases neg
   ·exact cmpI_gt (by simp; omega)
   ·exact cmpI_lt (by simp; omega)
  have E := Lib.hid e
  clear e
  generalize hk : (digs (val l)).length = k at *
  have HK := Lib.hid hk
  clear hk
  have hk0 : ((k : Int) == 0) = false := by simpa using hlen
  cases neg
  all_goals
   rw [E.out]
   go_enter Tryz.func94, Tryz.ntmps94
   go_wp2_with fail
   refine (trim_any A n c l _ (h.alloc _) hnc hm).mono ?_
   rw [HK.out]
   rintro e w' ⟨rfl, rfl⟩
   go_wp2
   go_ret
   exact ⟨rfl, (Below.refl _ _).alloc (Nat.le_refl _) _⟩

theorem cmpI_flip (a b : Nat) : cmpI (-(a : Int)) (-(b : Int)) = cmpI b a := by
 unfold cmpI
 split <;> split <;> (try split) <;> (try split) <;> omega
theorem sg_of_neg {neg : Bool} {n : Nat} (h : sg neg n < 0) : sg neg n = -(n : Int) := by
 unfold sg at *; cases neg <;> simp at * <;> omega
theorem sg_of_pos {neg : Bool} {n : Nat} (h : 0 ≤ sg neg n) : sg neg n = (n : Int) := by
 unfold sg at *; cases neg <;> simp at * <;> omega
theorem cmp_cases (a b : Int) : (cmpI a 0 < cmpI b 0 ∧ cmpI a b = -1) ∨ (cmpI b 0 < cmpI a 0 ∧ cmpI a b = 1) ∨ (cmpI a 0 = cmpI b 0 ∧ cmpI a 0 < 0 ∧ a < 0 ∧ b < 0) ∨ (cmpI a 0 = cmpI b 0 ∧ 0 ≤ cmpI a 0 ∧ 0 ≤ a ∧ 0 ≤ b) := by
 unfold cmpI
 by_cases h1 : a < 0 <;> by_cases h2 : b < 0 <;> by_cases h3 : 0 < a <;> by_cases h4 : 0 < b <;> by_cases h5 : a < b <;> by_cases h6 : b < a <;> simp [h1, h2, h3, h4, h5, h6] <;> omega

theorem quiet_left {P : Program} {f : FuncId} {args : Array Value} {w : World} {n : Nat} {v : Value}
  (h : Calls P f args (w.drewN n) fun e w' => e = .returned v ∧ w.drewN n = w') : Calls P f args (w.drewN n) fun e w'' => e = .returned v ∧ ∃ m, w'' = w.drewN m :=
 h.mono fun _ _ ⟨he, hm⟩ => ⟨he, n, hm.symm⟩

set_option maxHeartbeats 1000000 in
theorem cmp_any (neg neg' : Bool) (A A' : Option Addr) (n n' c c' : Nat) (l l' : List Nat) (w : World) (h : Wat w A n l) (h' : Wat w A' n' l') (hnc : n ≤ c) (hnc' : n' ≤ c') (hm : n ≤ 9223372036854775807) (hm' : n' ≤ 9223372036854775807) :
  Calls Tryz.prog 96 #[.agg #[.bool neg, .slice A n c], .agg #[.bool neg', .slice A' n' c']] w fun e w' => e = .returned (.int .i64 (cmpI (sg neg (val l)) (sg neg' (val l')))) ∧ Below w.heap.size w w' := by
 generalize hx : cmpI (sg neg (val l)) 0 = x
 generalize hy : cmpI (sg neg' (val l')) 0 = y
 have HX := Lib.hid hx
 have HY := Lib.hid hy
 clear hx hy
 go_enter Tryz.func96, Tryz.ntmps96
 go_wp2_with fail
 have hA := (Blk.new w 40 #[.bool neg, .slice A n c]).alloc (.cells #[.bool neg', .slice A' n' c'] 40)
 have hA' := Blk.new (w.alloc (.cells #[.bool neg, .slice A n c] 40)) 40 #[.bool neg', .slice A' n' c']
 rw [World.size_alloc] at hA'
 have hBW : Below w.heap.size w ((w.alloc (.cells #[.bool neg, .slice A n c] 40)).alloc (.cells #[.bool neg', .slice A' n' c'] 40)) := ((Below.refl _ _).alloc (Nat.le_refl _) _).alloc (by simp) _
 generalize (w.alloc (.cells #[.bool neg, .slice A n c] 40)).alloc (.cells #[.bool neg', .slice A' n' c'] 40) = W at *
 have hS : ∀ w', Kp W w' → (w'.cell? ⟨w.heap.size, 0, none⟩ = some (.bool neg) ∧ w'.cell? ⟨w.heap.size, 1, none⟩ = some (.slice A n c) ∧ w'.cell? ⟨w.heap.size + 1, 0, none⟩ = some (.bool neg') ∧ w'.cell? ⟨w.heap.size + 1, 1, none⟩ = some (.slice A' n' c')) ∧ Kp W w' := fun w' hk =>
  ⟨⟨(hk.blk hA).cell 0, (hk.blk hA).cell 1, (hk.blk hA').cell 0, (hk.blk hA').cell 1⟩, hk⟩
 have HS := Lib.hid hS
 obtain ⟨⟨s0, s1, s2, s3⟩, s4⟩ := hS W (Kp.refl W)
 have hw1 := h.below hBW
 have hw2 := h'.below hBW
 clear hS hA hA'
 go_region_held3 (fun w' => (w'.cell? ⟨w.heap.size, 0, none⟩ = some (.bool neg) ∧ w'.cell? ⟨w.heap.size, 1, none⟩ = some (.slice A n c) ∧ w'.cell? ⟨w.heap.size + 1, 0, none⟩ = some (.bool neg') ∧ w'.cell? ⟨w.heap.size + 1, 1, none⟩ = some (.slice A' n' c')) ∧ Kp W w')
  (first | exact HS.out _ (by assumption) | exact HS.out _ (Kp.drew (by assumption)) | exact HS.out _ (Kp.drew (And.right (by assumption))))
  (first
   | (go_at_call_of 94 (Value.agg #[.bool neg, .slice A n c]); have hk := And.right ‹(_ ∧ _ ∧ _ ∧ _) ∧ Kp W _›; refine (sign_any neg A n c l _ (hw1.below hk) hnc hm).mono ?_; rw [HX.out]; rintro e w1 ⟨rfl, hb⟩; have hk1 := hk.trans hb; clear hk hb)
   | (go_at_call_of 94 (Value.agg #[.bool neg', .slice A' n' c']); have hk := And.right ‹(_ ∧ _ ∧ _ ∧ _) ∧ Kp W _›; refine (sign_any neg' A' n' c' l' _ (hw2.below hk) hnc' hm').mono ?_; rw [HY.out]; rintro e w1 ⟨rfl, hb⟩; have hk2 := hk.trans hb; clear hk hb))
 rename_i hHeld
 obtain ⟨⟨t0, t1, t2, t3⟩, hkp⟩ := hHeld
 have hB1 : Below w.heap.size w w1 := hBW.trans (Below.mono hkp hBW.size)
 have hv1 := h.below hB1
 have hv2 := h'.below hB1
 clear HS s0 s1 s2 s3 s4 hw1 hw2 hk1 hk2 hBW hkp
 have hx : x = cmpI (sg neg (val l)) 0 := HX.out.symm
 have hy : y = cmpI (sg neg' (val l')) 0 := HY.out.symm
 rcases cmp_cases (sg neg (val l)) (sg neg' (val l')) with ⟨h1, h2⟩ | ⟨h1, h2⟩ | ⟨h1, h2, h3, h4⟩ | ⟨h1, h2, h3⟩
 ·rw [← hx, ← hy] at h1
  have E := Lib.hid h2
  clear hx hy h2
  go_wp2
  go_ret
  rw [E.out]
  exact ⟨rfl, hB1⟩
 ·rw [← hx, ← hy] at h1
  have E := Lib.hid h2
  clear hx hy h2
  go_wp2
  go_ret
  rw [E.out]
  exact ⟨rfl, hB1⟩
 ·rw [← hx, ← hy] at h1
  rw [← hx] at h2
  subst h1
  have e : cmpI (val l') (val l) = cmpI (sg neg (val l)) (sg neg' (val l')) := by
   have a1 := sg_of_neg h3
   have a2 := sg_of_neg h4
   rw [a1, a2]; exact (cmpI_flip _ _).symm
  have E := Lib.hid e
  clear e hx hy h3 h4 HX HY
  have T1 := Lib.hid (fun W (hb : Below w1.heap.size w1 W) => trim_any A n c l W (hv1.below hb) hnc hm)
  have T2 := Lib.hid (fun W (hb : Below w1.heap.size w1 W) => trim_any A' n' c' l' W (hv2.below hb) hnc' hm')
  have T3 := Lib.hid (fun W (hb : Below w1.heap.size w1 W) => compareWords_any A' A _ _ c' c (val l') (val l) W (hv2.below hb).trim (hv1.below hb).trim (by have := hv2.trim_le; omega) (by have := hv1.trim_le; omega))
  go_wp2_with fail
  go_quiet ((first | (go_at_call_of 141 (Value.slice A n c); exact quiet_left (T1.out _ (belowN _ _))) | (go_at_call_of 141 (Value.slice A' n' c'); exact quiet_left (T2.out _ (belowN _ _))) | (go_at_call 142; exact Calls.quiet_of (T3.out _ (belowN _ _)))))
  go_wp2
  go_ret
  rw [← E.out]
  exact ⟨rfl, below_drewN hB1 _⟩
 ·rw [← hx, ← hy] at h1
  rw [← hx] at h2
  subst h1
  have e : cmpI (val l) (val l') = cmpI (sg neg (val l)) (sg neg' (val l')) := by
   have a1 := sg_of_pos h3.1
   have a2 := sg_of_pos h3.2
   rw [a1, a2]
  have E := Lib.hid e
  clear e hx hy h3 HX HY
  have T1 := Lib.hid (fun W (hb : Below w1.heap.size w1 W) => trim_any A n c l W (hv1.below hb) hnc hm)
  have T2 := Lib.hid (fun W (hb : Below w1.heap.size w1 W) => trim_any A' n' c' l' W (hv2.below hb) hnc' hm')
  have T3 := Lib.hid (fun W (hb : Below w1.heap.size w1 W) => compareWords_any A A' _ _ c c' (val l) (val l') W (hv1.below hb).trim (hv2.below hb).trim (by have := hv1.trim_le; omega) (by have := hv2.trim_le; omega))
  go_wp2_with fail
  go_quiet ((first | (go_at_call_of 141 (Value.slice A n c); exact quiet_left (T1.out _ (belowN _ _))) | (go_at_call_of 141 (Value.slice A' n' c'); exact quiet_left (T2.out _ (belowN _ _))) | (go_at_call 142; exact Calls.quiet_of (T3.out _ (belowN _ _)))))
  go_wp2
  go_ret
  rw [← E.out]
  exact ⟨rfl, below_drewN hB1 _⟩

end Go.Proofs.YtjajigkacccdgaaGreat

namespace Go.Proofs.YtjajigkacccdgaaGreat
set_option linter.unusedVariables false
set_option linter.unusedSimpArgs false
open Go.RowKit
open Wd

def u32s (l : List Nat) : List Value := l.map fun d : Nat => .int .u32 (d : Int)
theorem u32s_get (l : List Nat) (j : Nat) : (u32s l)[j]? = l[j]?.map fun d : Nat => Value.int .u32 (d : Int) := by simp [u32s]
theorem u32s_one (l : List Nat) : ∀ u ∈ u32s l, u.oneCell' = true := by
 intro u hu
 simp only [u32s, List.mem_map] at hu
 obtain ⟨d, _, rfl⟩ := hu
 rfl

theorem addr_add (b o j : Nat) : (⟨b, o, none⟩ : Addr).add j = ⟨b, o + j, none⟩ := by
 unfold Addr.add; split
 ·rename_i h; subst h; rfl
 ·rfl
theorem Wat.news {w : World} {ad : Addr} {n : Nat} {l : List Nat} (h : Wat w (some ad) n l) : ∀ j u, (u32s l)[j]? = some u → w.cell? (ad.add j) = some u := by
 intro j u hu
 rw [u32s_get] at hu
 have hj : j < l.length := by
  rcases Nat.lt_or_ge j l.length with hj | hj
  ·exact hj
  ·rw [List.getElem?_eq_none hj] at hu; cases hu
 have hn := h.1
 obtain ⟨b, o, he, _, hc⟩ := h.2.2 (by omega)
 cases he
 rw [addr_add, hc j (by omega), ← hu, List.getElem?_eq_getElem hj]
 simp

theorem info_u32 : (Tryz.prog.info? 59).map (fun i => (i.zero, i.size, i.bytes)) = some (some (.int .u32 0), 1, 4) := by kernel_rfl

/-- A row of the call's own reads as words. -/
theorem wat_of_own {w : World} {base n : Nat} {v : Value} {l : List Nat} (hl : Ws l) (h : w.ownsRow base 59 1 v n (u32s l)) :
  ∃ A c, v = .slice A n c ∧ n ≤ c ∧ c ≤ maxLen ∧ Wat w A n l ∧ Fresh base w A n := by
 have hlen : l.length = n := by have := h.1; simpa [u32s] using this
 rcases h.2 with ⟨rfl, rfl⟩ | ⟨g, cap, cur, rfl, hbg, hh, hnc, hcm, hcs, hxs⟩
 ·obtain rfl : l = [] := List.eq_nil_of_length_eq_zero hlen
  exact ⟨none, 0, rfl, Nat.le_refl _, Nat.zero_le _, Wat.nil, Fresh.nil⟩
 ·have hlt : g < w.heap.size := by
   rcases Nat.lt_or_ge g w.heap.size with hlt | hge
   ·exact hlt
   ·rw [Array.getElem?_eq_none hge] at hh; cases hh
  refine ⟨_, _, rfl, hnc, hcm, ⟨hlen, hl, fun _ => ⟨g, 0, rfl, hlt, fun j hj => ?_⟩⟩, fun _ => ⟨g, 0, rfl, hbg, fun j _ => ?_⟩⟩
  ·have hc := h.cellAt j (by omega)
   rw [Nat.zero_add, hc, u32s_get, List.getElem?_eq_getElem (by omega)]
   simp
  ·rw [Nat.zero_add]; exact h.frozenAt j

/-- The call returns n words in new memory. -/
def RetW (w : World) (n : Nat) (l : List Nat) (e : Ending) (w' : World) : Prop :=
 ∃ A c, e = .returned (.slice A n c) ∧ n ≤ c ∧ c ≤ maxLen ∧ Wat w' A n l ∧ Fresh w.heap.size w' A n ∧ Below w.heap.size w w'

set_option maxHeartbeats 400000 in
theorem clone_any (A : Option Addr) (n c : Nat) (l : List Nat) (w : World) (h : Wat w A n l) (hm : n ≤ 1000000000000) :
  Calls Tryz.prog 154 #[.slice A n c] w (RetW w n l) := by
 rcases A with _ | ad
 ·have h0 : n = 0 := by
   rcases Nat.eq_zero_or_pos n with h0 | h0
   ·exact h0
   ·obtain ⟨b, o, he, _⟩ := h.2.2 (by omega)
    cases he
  subst h0
  obtain rfl : l = [] := List.eq_nil_of_length_eq_zero h.1
  have hq := fun w => Lib.run_eql_slice_nil (P := Tryz.prog) w 38 59 none 0 c 0 0 Tryz.underlying38
  go_enter Tryz.func154, Tryz.ntmps154
  go_wp2
  go_ret
  exact ⟨none, 0, rfl, Nat.le_refl _, Nat.zero_le _, Wat.nil, Fresh.nil, Below.refl _ _⟩
 ·have hq := fun w => Lib.run_eql_slice_nil (P := Tryz.prog) w 38 59 (some ad) n c 0 0 Tryz.underlying38
  obtain ⟨i0, hi, hz0, hz1, hz2⟩ := info_parts info_u32
  have hlen : (u32s l).length = n * 1 := by simp [u32s, h.1]
  have HL := Lib.hid hlen
  clear hlen
  go_enter Tryz.func154, Tryz.ntmps154
  go_wp2_with (at_builtin; refine wpList_append_own _ rfl _ _ 38 rfl w.heap.size 59 i0 (.int .u32 0) 1 4 Tryz.underlying38 hi hz0 hz1 hz2 rfl (by decide) (.slice (some ⟨w.heap.size, 0, none⟩) 0 0) 0 [] rfl ?c1 ad n c (u32s l) rfl HL.out ?c2 (u32s_one l) ?c3 ?c4 ?c5 ?_)
  case c1 => exact ⟨by simp, .inr ⟨w.heap.size, 0, #[], rfl, Nat.le_refl _, heap_alloc_new _ _, Nat.le_refl _, Nat.zero_le _, rfl, rfl⟩⟩
  case c2 => exact (h.alloc _).news
  case c3 => simp only [maxLen]; omega
  case c4 => omega
  case c5 => simp
  intro v1 w1 hown hgr _
  have hown : w1.ownsRow w.heap.size 59 1 v1 n (u32s l) := by simpa using hown
  obtain ⟨A1, c1, rfl, hk, hcm, hW, hF⟩ := wat_of_own h.2.1 hown
  have hB : Below w.heap.size w w1 := ((Below.refl _ w).alloc (Nat.le_refl _) _).grown hgr (by simp) (fun k hk => by simp [Value.ownBlock] at hk; omega)
  clear hi hz0 hz1 hz2 hown hgr
  go_wp2
  go_ret
  exact ⟨A1, c1, rfl, hk, hcm, hW, hF, hB⟩


/-- From the words that 'build' took over to the canonical integer in new memory. -/
theorem RetZ.of_in {w0 w w' : World} {A : Option Addr} {n c : Nat} {l : List Nat} {neg : Bool} {e : Ending} (hb : Below w0.heap.size w0 w) (hW : Wat w A n l) (hF : Fresh w0.heap.size w A n) (hnc : n ≤ c)
  (h : RetIn w A c (sg neg (val l)) e w') : RetZ w0 (sg neg (val l)) e w' := by
 obtain ⟨A', c', he, h1, h2, hB⟩ := h
 have hna := sg_natAbs neg (val l)
 by_cases hz : sg neg (val l) = 0
 ·obtain ⟨rfl, rfl⟩ := h2 hz
  rw [hna] at he
  have h0 : val l = 0 := by have := congrArg Int.natAbs hz; rw [hna] at this; exact this
  rw [h0, digs_zero] at he
  refine ⟨none, 0, 0, ?_, Nat.le_refl _, ?_, Fresh.nil, hb.trans (hB.mono hb.size)⟩
  ·rw [h0]; exact he
  ·rw [hna, h0, digs_zero]; exact Wat.nil
 ·obtain ⟨rfl, rfl⟩ := h1 hz
  rw [hna] at he
  refine ⟨A', _, c', he, Nat.le_trans hW.trim_le hnc, ?_, ?_, hb.trans (hB.mono hb.size)⟩
  ·rw [hna]; exact hW.trim.below hB
  ·exact (hF.shorter hW.trim_le).keep hW.trim hB

set_option maxHeartbeats 1000000 in
theorem neg_any (neg : Bool) (A : Option Addr) (n c : Nat) (l : List Nat) (w : World) (h : Wat w A n l) (hnc : n ≤ c) (hm : n ≤ 1000000000000) :
  Calls Tryz.prog 140 #[.agg #[.bool neg, .slice A n c]] w (RetZ w (-(sg neg (val l)))) := by
 have hsn : sg (!neg) (val l) = -(sg neg (val l)) := by unfold sg; cases neg <;> simp
 rw [← hsn]
 clear hsn
 go_enter Tryz.func140, Tryz.ntmps140
 go_wp2_with fail
 obtain ⟨hB0, hB1, hBW, hsz⟩ := pre2 w 40 #[.bool neg, .slice A n c] 40 #[.bool false, .slice none 0 0]
 generalize (w.alloc (.cells #[.bool neg, .slice A n c] 40)).alloc (.cells #[.bool false, .slice none 0 0] 40) = W at *
 have HSZ := Lib.hid hsz
 clear hsz
 have s4 := RS.start hB1
 have hw : ∀ w', RS (w.heap.size + 1) 40 W w' → Wat w' A n l := fun w' hk => h.below (hBW.trans (hk.1.mono (by omega)))
 have HW := Lib.hid hw
 clear hw
 have hS : ∀ w', RS (w.heap.size + 1) 40 W w' → (w'.cell? ⟨w.heap.size, 0, none⟩ = some (.bool neg) ∧ w'.cell? ⟨w.heap.size, 1, none⟩ = some (.slice A n c)) ∧ RS (w.heap.size + 1) 40 W w' := fun w' hk => ⟨⟨(hk.blk hB0 (by omega)).cell 0, (hk.blk hB0 (by omega)).cell 1⟩, hk⟩
 have HS := Lib.hid hS
 clear hS
 clear hB0 hB1
 go_region_held3 (fun w' => (w'.cell? ⟨w.heap.size, 0, none⟩ = some (.bool neg) ∧ w'.cell? ⟨w.heap.size, 1, none⟩ = some (.slice A n c)) ∧ RS (w.heap.size + 1) 40 W w')
  (first | exact HS.out _ (by assumption) | exact HS.out _ (RS.drew (by assumption)) | exact HS.out _ (RS.drew (And.right (by assumption))) | exact HS.out _ (RS.set (And.right (by assumption)) _ _))
  (first
   | (go_at_call 141; have hk := And.right ‹_ ∧ RS (w.heap.size + 1) 40 W _›; refine (trim_any A n c l _ (HW.out _ hk) hnc (by omega)).mono ?_; rintro e w1 ⟨rfl, rfl⟩)
   | (go_at_call 154; have hk := And.right ‹_ ∧ RS (w.heap.size + 1) 40 W _›; refine (clone_any A _ c _ _ (HW.out _ hk).trim (by have := h.trim_le; omega)).mono ?_; rintro e w1 ⟨A1, c1, rfl, hk1, hcm1, hW1, hF1, hb1⟩; have hr1 := hk.call hb1)
   | (go_at_call 144; have hk := And.right ‹_ ∧ RS (w.heap.size + 1) 40 W _›; refine (build_any (!neg) A1 _ c1 _ _ hW1 hk1 (by have := h.trim_le; omega)).mono ?_; intro e w2 hr; have hr := RetZ.of_in hb1 hW1 hF1 hk1 hr; rw [val_digs] at hr; obtain ⟨A2, k2, c2, rfl, hk2, hW2, hF2, hb2⟩ := hr; have hr2 := RS.call ‹RS _ _ _ W.drew› hb2; obtain ⟨_, _, c0, c1, f0, f1⟩ := hr2.two))
 have hfin := retZ_close hBW (by omega) (by have := HSZ.out; show _ < W.heap.size; omega) hr2 hk2 hW2 hF2
 obtain ⟨d0, d1, -, -⟩ := (hr2.done (.bool (decide (sg (!neg) (val l) < 0))) (.slice A2 k2 c2)).two
 clear hr
 have HF := Lib.hid hfin
 clear hfin
 go_wp2
 refine bodyPost_ret (v := .agg #[.bool (decide (sg (!neg) (val l) < 0)), .slice A2 k2 c2]) ?_ rfl HF.out
 simp [results, Tryz.results140, go_sem, d0, d1]

end Go.Proofs.YtjajigkacccdgaaGreat

namespace Go.Proofs.YtjajigkacccdgaaGreat
set_option linter.unusedVariables false
set_option linter.unusedSimpArgs false
open Go.RowKit
open Wd

def Fits (z : Int) : Prop := -9223372036854775808 ≤ z ∧ z ≤ 9223372036854775807

theorem len_le_two {m : Nat} (h : m < 18446744073709551616) : (digs m).length ≤ 2 := digs_len_le.2 (by rw [pow2]; exact h)
theorem two_lt_len {m : Nat} (h : 18446744073709551616 ≤ m) : 2 < (digs m).length := digs_len_lt.2 (by rw [pow2]; exact h)


set_option maxHeartbeats 1000000 in
theorem int64_yes (neg : Bool) (A : Option Addr) (n c : Nat) (l : List Nat) (w : World) (h : Wat w A n l) (hnc : n ≤ c) (hm : n ≤ 1000000000000) (hz : Fits (sg neg (val l))) :
  Calls Tryz.prog 138 #[.agg #[.bool neg, .slice A n c]] w fun e w' => e = .returned (.tuple #[.int .i64 (sg neg (val l)), .bool true]) ∧ Below w.heap.size w w' := by
 obtain ⟨hz1, hz2⟩ := hz
 have ht := h.trim
 have hle := h.trim_le
 have T1 := Lib.hid (fun o => trim_any A n c l (w.alloc o) (h.alloc o) hnc (by omega))
 generalize hv : val l = m at *
 have hm2 : m < 18446744073709551616 := by unfold sg at hz1 hz2; cases neg <;> simp at hz1 hz2 <;> omega
 have h2 := len_le_two hm2
 have T2 := Lib.hid (fun o => low_any A _ c _ (w.alloc o) (ht.alloc o) h2)
 rw [val_digs] at T2
 generalize (digs m).length = k at *
 have HV := Lib.hid hv
 clear hv ht
 cases neg
 ·have hms : m < 9223372036854775808 := by unfold sg at hz2; simp at hz2; omega
  have e : sg false m = (m : Int) := rfl
  rw [e]
  have hd : decide ((9223372036854775808 : Int) ≤ (m : Int)) = false := by simp; omega
  have HMS := Lib.hid hms
  clear hz1 hz2 e hm2 hms
  go_enter Tryz.func138, Tryz.ntmps138
  go_wp2_with fail
  refine (T1.out _).mono ?_
  rintro e w' ⟨rfl, rfl⟩
  go_wp2_with fail
  refine (T2.out _).mono ?_
  rintro e w' ⟨rfl, q, rfl⟩
  go_wp2
  go_ret2
  refine ⟨?_, below_drewN ((Below.refl _ _).alloc (Nat.le_refl _) _) _⟩
  have e : wrap64 (m : Int) = (m : Int) := by have := HMS.out; unfold wrap64; omega
  simp [e]
 ·have hms : m ≤ 9223372036854775808 := by unfold sg at hz1; simp at hz1; omega
  have e : sg true m = -(m : Int) := rfl
  rw [e]
  have hd : decide ((9223372036854775808 : Int) < (m : Int)) = false := by simp; omega
  have HMS := Lib.hid hms
  clear hz1 hz2 e hm2 hms
  go_enter Tryz.func138, Tryz.ntmps138
  go_wp2_with fail
  refine (T1.out _).mono ?_
  rintro e w' ⟨rfl, rfl⟩
  go_wp2_with fail
  refine (T2.out _).mono ?_
  rintro e w' ⟨rfl, q, rfl⟩
  go_wp2
  go_ret2
  refine ⟨?_, below_drewN ((Below.refl _ _).alloc (Nat.le_refl _) _) _⟩
  have e : wrap64 (IntKind.u64.wrap (-(m : Int))) = -(m : Int) := by
   have := HMS.out; rw [IntKind.wrap_u64]; unfold wrap64; omega
  simp [e]

set_option maxHeartbeats 1000000 in
theorem int64_no (neg : Bool) (A : Option Addr) (n c : Nat) (l : List Nat) (w : World) (h : Wat w A n l) (hnc : n ≤ c) (hm : n ≤ 1000000000000) (hz : ¬ Fits (sg neg (val l))) :
  Calls Tryz.prog 138 #[.agg #[.bool neg, .slice A n c]] w fun e w' => e = .returned (.tuple #[.int .i64 0, .bool false]) ∧ Below w.heap.size w w' := by
 have ht := h.trim
 have hle := h.trim_le
 have T1 := Lib.hid (fun o => trim_any A n c l (w.alloc o) (h.alloc o) hnc (by omega))
 generalize hv : val l = m at *
 by_cases hbig : 18446744073709551616 ≤ m
 ·have h2 := two_lt_len hbig
  generalize (digs m).length = k at *
  clear hv ht hz hbig
  go_enter Tryz.func138, Tryz.ntmps138
  go_wp2_with fail
  refine (T1.out _).mono ?_
  rintro e w' ⟨rfl, rfl⟩
  go_wp2
  go_ret2
  exact ⟨rfl, (Below.refl _ _).alloc (Nat.le_refl _) _⟩
 ·have h2 := len_le_two (m := m) (by omega)
  have T2 := Lib.hid (fun o => low_any A _ c _ (w.alloc o) (ht.alloc o) h2)
  rw [val_digs] at T2
  generalize (digs m).length = k at *
  cases neg
  ·have hd : decide ((9223372036854775808 : Int) ≤ (m : Int)) = true := by unfold Fits sg at hz; simp at hz ⊢; omega
   clear hv ht hz hbig
   go_enter Tryz.func138, Tryz.ntmps138
   go_wp2_with fail
   refine (T1.out _).mono ?_
   rintro e w' ⟨rfl, rfl⟩
   go_wp2_with fail
   refine (T2.out _).mono ?_
   rintro e w' ⟨rfl, q, rfl⟩
   go_wp2
   go_ret2
   exact ⟨rfl, below_drewN ((Below.refl _ _).alloc (Nat.le_refl _) _) _⟩
  ·have hd : decide ((9223372036854775808 : Int) < (m : Int)) = true := by unfold Fits sg at hz; simp at hz ⊢; omega
   clear hv ht hz hbig
   go_enter Tryz.func138, Tryz.ntmps138
   go_wp2_with fail
   refine (T1.out _).mono ?_
   rintro e w' ⟨rfl, rfl⟩
   go_wp2_with fail
   refine (T2.out _).mono ?_
   rintro e w' ⟨rfl, q, rfl⟩
   go_wp2
   go_ret2
   exact ⟨rfl, below_drewN ((Below.refl _ _).alloc (Nat.le_refl _) _) _⟩

/-- 'carrier(c)': a closure over a new cell that holds c. -/
theorem carrier_any (c : Int) (w : World) :
  Calls Tryz.prog 196 #[.int .u64 c] w fun e w' => e = .returned (.func (.func 217) #[] #[.pointer (some ⟨w.heap.size, 0, none⟩)]) ∧ w.alloc (.cells #[.int .u64 c] 164) = w' := by
 have hmf : ∀ (fn : Fn) (first cap : Array Value) (w : World), (Instr.makeFunc fn first cap).run Tryz.prog w = .ok (.func fn first cap) w := fun _ _ _ _ => rfl
 go_enter Tryz.func196, Tryz.ntmps196
 go_wp2
 go_ret
 exact ⟨rfl, rfl⟩

/-- One step of the carry: the word of x + c, the rest stays as the next carry. -/
theorem next_any (g : Nat) (x c : Int) (w : World) (hg : Blk w g 164 #[.int .u64 c]) (hx0 : 0 ≤ x) (hc0 : 0 ≤ c) (hx : x + c < 18446744073709551616) :
  Calls Tryz.prog 217 #[.int .u64 x, .pointer (some ⟨g, 0, none⟩)] w fun e w' => e = .returned (.int .u32 ((x + c) % 4294967296)) ∧ w.setCell ⟨g, 0, none⟩ (.int .u64 ((x + c) / 4294967296)) = w' := by
 obtain ⟨c0, f0⟩ := hg.one
 have hs : IntKind.u64.wrap (x + c) = x + c := by rw [IntKind.wrap_u64]; omega
 have HX := Lib.hid hx
 clear hx
 go_enter Tryz.func217, Tryz.ntmps217
 go_wp2
 go_ret
 exact ⟨rfl, rfl⟩

end Go.Proofs.YtjajigkacccdgaaGreat
