/-
Package reserve: Fill where the arguments are refused; New of package frac. No statement of the seat is proved here; no conditions beyond those of each theorem.
-/
import Derived.Test.YtodkhjihkkmplaaGreatLFf
namespace Go.Proofs.YtodkhjihkkmplaaGreat
set_option linter.unusedVariables false
set_option linter.unusedSimpArgs false
open Go.RowKit
open Wd

set_option maxHeartbeats 1000000 in
theorem new_any (n d : Int) (w : World) (hn : n.natAbs ≤ 9223372036854775807) (hd : d.natAbs ≤ 9223372036854775807) (h0 : 0 < d) :
  Calls Tryz.prog 35 #[.int .i64 n, .int .i64 d] w fun e w' => ∃ A k c A' k' c', e = .returned (.tuple #[.agg #[.bool (decide ((mkRat n d.natAbs).num < 0)), .slice A k c, .bool false, .slice A' k' c'], .int .i64 0]) ∧ RQ w' (mkRat n d.natAbs) A k c A' k' c' ∧ Below w.heap.size w w' := by
 have hd0 : (d == 0) = false := by simp; omega
 have T1 := Lib.hid (fun W => fromInt64_any n W (by omega) (by omega))
 have T2 := Lib.hid (fun W => fromInt64_any d W (by omega) (by omega))
 have b3 := pb_zero
 have TR := Lib.hid (fun (W : World) (A B : Option Addr) (j e j' e' : Nat) (h1 : Wat W A j (digs n.natAbs)) (hj : j ≤ e) (h2 : Wat W B j' (digs d.natAbs)) (hj' : j' ≤ e') => reduce_in (pb_ok (k := 0) (by omega)) h1 hj h2 hj' (by omega) (by omega) h0)
 generalize mkRat n d.natAbs = q at *
 clear hn hd h0 b3
 go_enter Tryz.func35, Tryz.ntmps35
 go_wp2_with fail
 obtain ⟨hB0, hBW, hsz⟩ := pre1 w 31 #[.bool false, .slice none 0 0, .bool false, .slice none 0 0]
 generalize w.alloc (.cells #[.bool false, .slice none 0 0, .bool false, .slice none 0 0] 31) = W at *
 have HSZ := Lib.hid hsz
 clear hsz
 have hr1 := RS4.start hB0
 clear hB0
 refine (T1.out _).mono ?_
 rintro e w1 ⟨A3, k3, c3, rfl, hk3, hW3, hF3, hb3⟩
 go_wp2_with fail
 refine (T2.out _).mono ?_
 rintro e w2 ⟨A4, k4, c4, rfl, hk4, hW4, hF4, hb4⟩
 have T3 := Lib.hid (TR.out w2 A3 A4 k3 c3 k4 c4 (hW3.below hb4) hk3 hW4 hk4)
 have hr2 := (hr1.call hb3).call hb4
 generalize decide (n < 0) = s1 at *
 generalize decide (d < 0) = s2 at *
 clear hW3 hW4 hF3 hF4 hb3 hb4 T1 T2 TR hr1 hk3 hk4
 go_wp2_with fail
 refine T3.out.mono ?_
 rintro e w9 ⟨A9, k9, c9, A10, k10, c10, rfl, hk9, hk10, hW9, hW10, hF9, hF10, hb9⟩
 have hl9 : w.heap.size < w2.heap.size := by obtain ⟨_, _, _, _, _, hx⟩ := hr2; exact hx.lt
 have hr9 := hr2.call hb9
 obtain ⟨_, _, _, _, f0, f1, f2, f3, f4, f5, f6, f7⟩ := hr9.four
 have hfin := retQ_close (q := q) hBW (by omega) hl9 hr9 hk9 hk10 hW9 hW10 hF9 hF10
 obtain ⟨d0, d1, d2, d3, -, -, -, -⟩ := (hr9.done (.bool (decide (q.num < 0))) (.slice A9 k9 c9) (.bool false) (.slice A10 k10 c10)).four
 have HF := Lib.hid hfin
 clear hfin hl9 hr9 hr2 T3 hW9 hW10 hF9 hF10 hb9
 go_wp2
 refine bodyPost_ret (v := .tuple #[.agg #[.bool (decide (q.num < 0)), .slice A9 k9 c9, .bool false, .slice A10 k10 c10], .int .i64 0]) ?_ rfl ?_
 ·simp [results, Tryz.results35, go_sem, d0, d1, d2, d3]
 ·obtain ⟨A, k, c, A', k', c', he, h1, h2, h3, h4, h5, h6, h7⟩ := HF.out
  simp at he
  obtain ⟨⟨rfl, rfl, rfl⟩, rfl, rfl, rfl⟩ := he
  exact ⟨_, _, _, _, _, _, rfl, ⟨h1, h2, h3, h4⟩, h7⟩

set_option maxHeartbeats 1000000 in
theorem fill_no (K : Nat) (hK : K ≤ 17) (A B C : Option Addr) (n c m d p pc : Nat) (us : List Un) (bs : List Bool) (qs : List Rat) (need : Int) (w : World) (h : UsAt w A n us) (h' : BsAt w B m bs) (hg : GsAt K w C p qs) (hm : n ≤ 1000000000000) (hm' : m ≤ 1000000000000) (hp : p ≤ 1000000000000) (hr : rchk us bs qs need ≠ 0) :
  Calls Tryz.prog 13 #[.slice A n c, .slice B m d, .slice C p pc, .int .i64 need] w fun e w' => e = .returned (.tuple #[.slice none 0 0, .int .i64 0, .agg #[.bool false, .slice none 0 0, .bool false, .slice none 0 0], .int .i64 (rchk us bs qs need)]) ∧ Below w.heap.size w w' := by
 have CC := Lib.hid (fun W (hW : Below w.heap.size w W) => rcheck_any K hK A B C n c m d p pc us bs qs need W (h.below hW) (h'.below hW) (hg.below hW) hm hm' hp)
 have hx : (rchk us bs qs need != 0) = true := by simpa using hr
 generalize rchk us bs qs need = x at *
 clear h h' hg hr
 go_enter Tryz.func13, Tryz.ntmps13
 go_wp2_with fail
 obtain ⟨hB0, hB1, hBW, hsz⟩ := pre2 w 22 #[.slice A n c] 31 #[.bool false, .slice none 0 0, .bool false, .slice none 0 0]
 generalize (w.alloc (.cells #[.slice A n c] 22)).alloc (.cells #[.bool false, .slice none 0 0, .bool false, .slice none 0 0] 31) = W at *
 have HSZ := Lib.hid hsz
 clear hsz
 have hlA := hB0.cell 0
 go_wp2_with fail
 refine (CC.out W hBW).mono ?_
 rintro e w1 ⟨rfl, hb1⟩
 have hB1 := hB1.below hb1 hB1.lt
 have hBW1 := hBW.trans (hb1.mono hBW.size)
 obtain ⟨_, _, _, _, f4, f5, f6, f7⟩ := hB1.four
 have hB2 := hB1.set4 (.bool false) (.slice none 0 0) (.bool false) (.slice none 0 0)
 have hfin := below_set4 hBW1 (show w.heap.size ≤ w.heap.size + 1 by omega) (.bool false) (.slice none 0 0) (.bool false) (.slice none 0 0)
 obtain ⟨d0, d1, d2, d3, -, -, -, -⟩ := hB2.four
 have HF := Lib.hid hfin
 have HC := Lib.hid hB1
 have HD := Lib.hid (And.intro d0 (And.intro d1 (And.intro d2 d3)))
 clear CC hb1 hB0 hBW hBW1 hfin hB1 hB2 hlA d0 d1 d2 d3
 have hc1 := HC.out.four
 obtain ⟨c0, c1, c2, c3, -, -, -, -⟩ := hc1
 go_wp2
 obtain ⟨d0, d1, d2, d3⟩ := HD.out
 refine bodyPost_ret (v := .tuple #[.slice none 0 0, .int .i64 0, .agg #[.bool false, .slice none 0 0, .bool false, .slice none 0 0], .int .i64 x]) ?_ rfl ⟨rfl, HF.out⟩
 simp [results, Tryz.results13, go_sem, d0, d1, d2, d3]

end Go.Proofs.YtodkhjihkkmplaaGreat
