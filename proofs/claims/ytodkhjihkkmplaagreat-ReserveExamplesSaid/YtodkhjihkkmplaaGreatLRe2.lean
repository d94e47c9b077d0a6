/-
Short names for the steps of a drawn region. A long region gathered: its temporaries behind a fixed front. The examples of layer 30: refused, whole. ReserveExamples: the rows of its last region. ReserveExamples: its walk. No statement of the seat is proved here; no conditions beyond those of each theorem.
-/
import Derived.Test.YtodkhjihkkmplaaGreatLPA
import Derived.OrdersHeld
import Derived.Deep.RegionHeld3
import Derived.Test.YtodkhjihkkmplaaGreatLRc2
import Derived.Test.YtodkhjihkkmplaaGreatLQC
namespace Go.Proofs.YtodkhjihkkmplaaGreat
set_option linter.unusedVariables false
set_option linter.unusedSimpArgs false
open Go

theorem p1 {α : Type} {xs : List α} {i : Nat} (h : i < xs.toArray.size) : xs.toArray[i] = xs[i]'(by simpa using h) := List.getElem_toArray h
theorem p2 {α : Type} {a : α} {xs : List α} (h : 0 < (a :: xs).length) : (a :: xs)[0] = a := rfl
theorem p3 {α : Type} {a : α} {xs : List α} {i : Nat} (h : i + 1 < (a :: xs).length) : (a :: xs)[i + 1] = xs[i]'(Nat.lt_of_succ_lt_succ h) := rfl
theorem p4 {α : Type} (l : List α) (i : Nat) (a : α) : l.toArray.setIfInBounds i a = (l.set i a).toArray := List.setIfInBounds_toArray l i a
theorem p5 {α : Type} {x a : α} {xs : List α} : (x :: xs).set 0 a = a :: xs := rfl
theorem p6 {α : Type} {x a : α} {xs : List α} {n : Nat} : (x :: xs).set (n + 1) a = x :: xs.set n a := rfl
section
variable {P : Program} {ops : Array Oper} {Q : Exit → Act → World → Prop} {md : Region.Mode} {S : World → Prop}
/-- Take number i first; its value v. -/
theorem tkk {oi : Oper} {v : Value} {fuel : Nat} {listed : Array Bool} {a : Act} {w : World} (i : Nat) (hi : ops[i]? = some oi) (hc : (Region.noSelect ops && (Region.free md ops listed i && (Region.ready md ops listed).contains i)) = true)
  (hQ : ∀ c a w, Q (.panic c) (a.put oi.dst v) w → Q (.panic c) a w) (hy : YieldsIf P ops S oi v a) (hS : S w) (h : wpAnyH P md ops Q S fuel (listed.setIfInBounds i true) (a.put oi.dst v) w) : wpAnyH P md ops Q S (fuel + 1) listed a w := by
 simp only [Bool.and_eq_true] at hc
 exact wpAnyH_take hi hc.1 hc.2.1 hc.2.2 hQ hy hS h
end

end Go.Proofs.YtodkhjihkkmplaaGreat

namespace Go.Proofs.YtodkhjihkkmplaaGreat
set_option linter.unusedVariables false
set_option linter.unusedSimpArgs false
open Go

/-- The frame: what lay there before, then one temporary for each operation. -/
def mkL (pre : List Value) (n : Nat) (f : Nat → Value) : Act := ⟨(pre ++ (List.range n).map f).toArray, []⟩
section
variable {pre : List Value} {n i t : Nat} {f : Nat → Value} {v : Value}
theorem mkL_get (ht : t = pre.length + i) (hi : i < n) : (mkL pre n f).tmps[t]? = some (f i) := by
 subst ht
 simp [mkL, hi]


theorem mkL_fix {v : Value} (h : pre[t]? = some v) : (mkL pre n f).tmps[t]? = some v := by
 have ht : t < pre.length := by
  rcases Nat.lt_or_ge t pre.length with hl | hg
  ·exact hl
  ·rw [List.getElem?_eq_none hg] at h; cases h
 simp [mkL, List.getElem?_append_left ht, h]
theorem mkL_put (ht : t = pre.length + i) (hi : i < n) : (mkL pre n f).put (some t) v = mkL pre n (upd f i v) := by
 subst ht
 unfold mkL Act.put
 simp only [Act.mk.injEq, and_true]
 apply Array.ext'
 simp only [Array.toList_setIfInBounds]
 rw [List.set_append_right _ _ (by omega)]
 congr 1
 rw [Nat.add_sub_cancel_left]
 apply List.ext_getElem?
 intro j
 by_cases hj : j < n
 ·by_cases hij : j = i
  ·subst hij
   rw [List.getElem?_set_self (by simpa using hj)]
   simp [hj, upd]
  ·rw [List.getElem?_set_ne (Ne.symm hij)]
   simp [hj, upd, hij]
 ·rw [List.getElem?_eq_none (by simp; omega), List.getElem?_eq_none (by simp; omega)]
theorem mkL_own (ht : t < pre.length) : ((mkL pre n f).put (some t) v).eval (.tmp t) = v := by
 have h : t < (mkL pre n f).tmps.size := by simp [mkL]; omega
 show ((mkL pre n f).tmps.setIfInBounds t v).getD t undef = v
 rw [Array.getD_eq_getD_getElem?, Array.getElem?_setIfInBounds_self_of_lt h]
 rfl
theorem fin_step {K K' : Act → World → Prop} {a' : Act} {w : World} (HK : ∀ a w, K a w → K' a w) (hp : a' = mkL pre n (upd f i v)) (h : K (mkL pre n (upd f i v)) w) : K' a' w := hp ▸ HK _ _ h
theorem wn0 {o : Oper} {y : Nat → Option Bool} (h : o.guard = none) : Region.wanted o y = true := by
 unfold Region.wanted
 rw [h]
theorem wn1 {o : Oper} {y : Nat → Option Bool} {g : Nat} {b : Bool} (h : o.guard = some (g, b)) (hy : y g = some b) : Region.wanted o y = true := by
 unfold Region.wanted
 rw [h]
 simp [hy]
theorem yd {ops : Array Oper} {g : Nat} {b : Bool} (hd : (ops[g]?).bind (·.dst) = some t) (ht : t = pre.length + g) (hg : g < n) (e : f g = .bool b) : yielded ops (mkL pre n f).tmps g = some b := by
 unfold yielded
 rw [hd, Option.bind_some, mkL_get ht hg, e]
end
theorem region_pre {P : Program} {id : Nat} {ops : Array Oper} {Q : Exit → Act → World → Prop} {a : Act} {w : World} (k n : Nat) (hd : a = mkL (a.tmps.toList.take k) n (fun _ => undef))
  (h : ∀ pre, pre = a.tmps.toList.take k → (Code.region id ops true).wp P Q (mkL pre n fun _ => undef) w) : (Code.region id ops true).wp P Q a w := by
 rw [hd]
 exact h _ rfl

end Go.Proofs.YtodkhjihkkmplaaGreat

namespace Go.Proofs.YtodkhjihkkmplaaGreat
set_option linter.unusedVariables false
set_option linter.unusedSimpArgs false
open Go.RowKit
open Wd

set_option maxRecDepth 100000 in
set_option maxHeartbeats 2000000 in
theorem refused_yes (A B C : Option Addr) (n c m d p pc : Nat) (us : List Un) (bs : List Bool) (qs : List Rat) (need x : Int) (w : World) (h : UsAt w A n us) (h' : BsAt w B m bs) (hg : GsAt 0 w C p qs) (hn : n ≤ 1000000000000) (hm' : m ≤ 1000000000000) (hp : p ≤ 1000000000000) (hr : rchk us bs qs need = x) (hx : x ≠ 0) :
  Calls Tryz.prog 25 #[.slice A n c, .slice B m d, .slice C p pc, .int .i64 need, .int .i64 x] w fun e w' => e = .returned (.bool true) ∧ Below w.heap.size w w' := by
 have T1 := Lib.hid (fill_no 0 (by omega) A B C n c m d p pc us bs qs need w h h' hg hn hm' hp (by rw [hr]; exact hx))
 rw [hr] at T1
 have T2 := Lib.hid (fun W => ris_yes 0 none none none none 0 0 0 0 0 0 W (rq_zero W) (rq_zero W) (by omega) (by omega))
 rw [show decide ((0 : Rat).num < 0) = false from rfl] at T2
 have z1 : (x == x) = true := by simp
 have z2 : decide (x = x) = true := by simp
 clear h h' hg hr hx
 go_enter Tryz.func25, Tryz.ntmps25
 go_wp2_with fail
 refine T1.out.mono ?_
 rintro e w1 ⟨rfl, hb1⟩
 have hx := (Kp.refl w1).alloc (.cells #[.bool false, .slice none 0 0, .bool false, .slice none 0 0] 31)
 obtain ⟨p0, p1, p2, p3, -, -, -, -⟩ := (Blk.new w1 31 #[.bool false, .slice none 0 0, .bool false, .slice none 0 0]).four
 have HB := Lib.hid (Below.trans hb1 (Below.mono hx (Below.size hb1)))
 clear hb1 hx T1
 go_wp2_with fail
 refine (T2.out _).mono ?_
 rintro e w2 ⟨rfl, hb2⟩
 have HF := Lib.hid (HB.out.trans (hb2.mono HB.out.size))
 clear hb2 T2 p0 p1 p2 p3
 go_wp2
 go_ret
 exact ⟨rfl, HF.out⟩

set_option maxHeartbeats 1000000 in
theorem whole_any (z : Int) (w : World) (h : Fits z) : Calls Tryz.prog 20 #[.int .i64 z] w (RetQ w ((z : Int) : Rat)) := by
 have T := Lib.hid (fun W => rint_any z W h.1 h.2)
 generalize ((z : Int) : Rat) = y at *
 clear h
 go_enter Tryz.func20, Tryz.ntmps20
 go_wp2_with fail
 obtain ⟨hB0, hBW, hsz⟩ := pre1 w 31 #[.bool false, .slice none 0 0, .bool false, .slice none 0 0]
 generalize w.alloc (.cells #[.bool false, .slice none 0 0, .bool false, .slice none 0 0] 31) = W at *
 have HSZ := Lib.hid hsz
 clear hsz
 have hr := RS4.start hB0
 have hl9 := RS4.lt hr
 refine (T.out _).mono ?_
 rintro e v9 ⟨A9, k9, c9, A10, k10, c10, rfl, hk9, hk10, hW9, hW10, hF9, hF10, hb9⟩
 have hr9 := hr.call hb9
 obtain ⟨_, _, _, _, f0, f1, f2, f3, f4, f5, f6, f7⟩ := hr9.four
 clear hr hB0
 have hfin := retQ_close hBW (by omega) (by have := HSZ.out; have h9 := hl9; omega) hr9 hk9 hk10 hW9 hW10 hF9 hF10
 obtain ⟨d0, d1, d2, d3, -, -, -, -⟩ := (hr9.done (.bool (decide ((y).num < 0))) (.slice A9 k9 c9) (.bool false) (.slice A10 k10 c10)).four
 have HF := Lib.hid hfin
 clear hfin hl9 hr9 T
 go_wp2
 refine bodyPost_ret (v := .agg #[.bool (decide ((y).num < 0)), .slice A9 k9 c9, .bool false, .slice A10 k10 c10]) ?_ rfl HF.out
 simp [results, Tryz.results20, go_sem, d0, d1, d2, d3]

/-- The beginning of a row. -/
theorem BsAt.front {w : World} {A : Option Addr} {n k : Nat} {bs : List Bool} (h : BsAt w A n bs) (hk : k ≤ n) : BsAt w A k (bs.take k) := by
 refine ⟨by rw [List.length_take, h.1]; omega, fun h0 => ?_⟩
 obtain ⟨b, o, e, hb, hc⟩ := h.2 (by omega)
 exact ⟨b, o, e, hb, fun j hj => by rw [List.getElem?_take_of_lt hj]; exact hc j (by omega)⟩
theorem GsAt.front {K : Nat} {w : World} {A : Option Addr} {n k : Nat} {qs : List Rat} (h : GsAt K w A n qs) (hk : k ≤ n) : GsAt K w A k (qs.take k) := by
 refine ⟨by rw [List.length_take, h.1]; omega, fun h0 => ?_⟩
 obtain ⟨b, o, e, hb, hc⟩ := h.2 (by omega)
 exact ⟨b, o, e, hb, fun j hj => by rw [List.getElem?_take_of_lt hj]; exact hc j (by omega)⟩
theorem UsAt.none (w : World) : UsAt w none 0 [] := ⟨rfl, fun h => absurd rfl h⟩
theorem BsAt.none (w : World) : BsAt w none 0 [] := ⟨rfl, fun h => absurd rfl h⟩
theorem GsAt.none (K : Nat) (w : World) : GsAt K w none 0 [] := ⟨rfl, fun h => absurd rfl h⟩

/-- The units, productions and needs of the examples. -/
def exBad : Un := ⟨0, 0, [(0, 1)], 1, 1, 0, 0, 0, 1⟩
def exGreat : List Un := [⟨0, 0, [(1000000, 1)], 1, 1, 0, 0, 1000000, 1⟩]
def exOff : List Bool := [true, false, true]
def exQn : List Rat := [((5 : Int) : Rat), ((0 : Int) : Rat), mkRat (qnum 5 2) (qden 2).natAbs]
def exQ1 : List Rat := [((5 : Int) : Rat), ((-1 : Int) : Rat), ((0 : Int) : Rat)]
def exQ2 : List Rat := [((5 : Int) : Rat), mkRat (qnum 13 2) (qden 2).natAbs, ((0 : Int) : Rat)]
theorem cx1 : rchk exU30 exOff exQn 6 = 0 := by decide +kernel
theorem cx2 : rchk exU30 exOff exQn 0 = 0 := by decide +kernel
theorem cx3 : rchk [] [] [] 3 = 0 := by decide +kernel
theorem cx4 : rchk exGreat [true] [((0 : Int) : Rat)] 1000000 = 0 := by decide +kernel
theorem cx5 : rchk exGreat [true] [((1000000 : Int) : Rat)] 1000000 = 0 := by decide +kernel
theorem rx1 : rchk [exBad, exBad, exBad, exBad, exBad, exBad] [] [] (-1) = 5 := by decide +kernel
theorem rx2 : rchk [exBad] [] [] (-1) = 1 := by decide +kernel
theorem rx3 : rchk exU30 [true, true] [] (-1) = 3 := by decide +kernel
theorem rx4 : rchk exU30 exB30 (exQ30.take 2) (-1) = 3 := by decide +kernel
theorem rx5 : rchk exU30 exOff exQ30 (-1) = 1 := by decide +kernel
theorem rx6 : rchk exU30 exB30 exQ1 1 = 1 := by decide +kernel
theorem rx7 : rchk exU30 exB30 exQ2 1 = 1 := by decide +kernel
theorem rx8 : rchk exU30 exB30 exQ30 (-1) = 1 := by decide +kernel
theorem rx9 : rchk exU30 exB30 exQ30 1000001 = 1 := by decide +kernel
theorem fx1 (ord : List Nat) (h : Rv.Ord (spF exU30) 3 ord) : fillV exU30 exOff exQn 6 ord = ⟨[((4 : Int) : Rat), 0, ((2 : Int) : Rat)], 0, 2⟩ := by
 rw [ord30 h]
 exact st_eq (by decide +kernel) (by decide +kernel) (by decide +kernel)
theorem fx2 (ord : List Nat) (h : Rv.Ord (spF exU30) 3 ord) : fillV exU30 exOff exQn 0 ord = ⟨[0, 0, 0], 0, 0⟩ := by
 rw [ord30 h]
 exact st_eq (by decide +kernel) (by decide +kernel) (by decide +kernel)
theorem fx3 (ord : List Nat) (h : Rv.Ord (spF []) 0 ord) : fillV [] [] [] 3 ord = ⟨[], ((3 : Int) : Rat), 0⟩ := by
 have e : [] = ord := (show List.Perm [] ord from h.1.symm).nil_eq
 subst e
 exact st_eq (by decide +kernel) (by decide +kernel) (by decide +kernel)
theorem ordOne {sp : Nat → Int} {ord : List Nat} (h : Rv.Ord sp 1 ord) : ord = [0] := h.uniq ⟨by decide, by simp⟩
theorem fx4 (ord : List Nat) (h : Rv.Ord (spF exGreat) 1 ord) : fillV exGreat [true] [((0 : Int) : Rat)] 1000000 ord = ⟨[((1000000 : Int) : Rat)], 0, 1000000⟩ := by
 rw [ordOne h]
 exact st_eq (by decide +kernel) (by decide +kernel) (by decide +kernel)
theorem fx5 (ord : List Nat) (h : Rv.Ord (spF exGreat) 1 ord) : fillV exGreat [true] [((1000000 : Int) : Rat)] 1000000 ord = ⟨[0], ((1000000 : Int) : Rat), 0⟩ := by
 rw [ordOne h]
 exact st_eq (by decide +kernel) (by decide +kernel) (by decide +kernel)

end Go.Proofs.YtodkhjihkkmplaaGreat

namespace Go.Proofs.YtodkhjihkkmplaaGreat
set_option linter.unusedVariables false
set_option linter.unusedSimpArgs false
open Go.RowKit

theorem pb_bil (k : Nat) : 1000000000 < PB k := by
 have h := (lv_int k (z := 1000000000) (by decide)).1
 exact h
theorem gs_small {w : World} {A : Option Addr} {n : Nat} {qs : List Rat} (h : QsAt w A n qs) (hl : ∀ j, j < n → (qs[j]?.getD 0).num.natAbs < 1000000000 ∧ (qs[j]?.getD 0).den < 1000000000) : GsAt 0 w A n qs :=
 h.gs (fun j hj => ⟨Nat.lt_trans (hl j hj).1 (pb_bil 0), Nat.lt_trans (hl j hj).2 (pb_bil 0)⟩) (by decide)
theorem lv_small {q : Rat} (h : q.num.natAbs < 1000000000 ∧ q.den < 1000000000) : Lv 0 q := ⟨Nat.lt_trans h.1 (pb_bil 0), Nat.lt_trans h.2 (pb_bil 0)⟩
section
variable {w : World} {g : Nat} {A : Option Addr} {c : Nat} {t t' : TypeId} {ι : Int → Rat} {y : Rat}
theorem QsAt.lit1 {s0 : Bool} {A0 B0 : Option Addr} {k0 c0 j0 e0 : Nat} {q0 : Rat} (h : Blk w g t #[.bool s0, .slice A0 k0 c0, .bool false, .slice B0 j0 e0]) (h0 : RQ w q0 A0 k0 c0 B0 j0 e0) (d0 : decide (q0.num < 0) = s0) : QsAt w (some ⟨g, 0, none⟩) 1 [q0] := by
 subst d0
 refine ⟨rfl, fun _ => ⟨g, 0, rfl, h.lt, fun j hj => ?_⟩⟩
 match j, hj with
 | 0, _ => exact ⟨_, _, _, _, _, _, h.cell 0, h.cell 1, h.cell 2, h.cell 3, h0⟩
theorem ua_one (h : Blk w g t #[.int .i64 0, .int .i64 0, .slice A 1 c, .int .i64 1, .int .i64 1, .int .i64 0, .int .i64 0, .int .i64 0, .int .i64 1]) (hs : StAt w A 1 [(0, 1)]) : UsAt w (some ⟨g, 0, none⟩) 1 [exBad] := by
 refine ⟨rfl, fun _ => ⟨g, 0, rfl, h.lt, fun j hj => ?_⟩⟩
 match j, hj with
 | 0, _ => exact ⟨A, 1, c, ⟨h.cell 0, h.cell 1, h.cell 2, h.cell 3, h.cell 4, h.cell 5, h.cell 6, h.cell 7, h.cell 8⟩, hs, by decide⟩
theorem ua_great (h : Blk w g t #[.int .i64 0, .int .i64 0, .slice A 1 c, .int .i64 1, .int .i64 1, .int .i64 0, .int .i64 0, .int .i64 1000000, .int .i64 1]) (hs : StAt w A 1 [(1000000, 1)]) : UsAt w (some ⟨g, 0, none⟩) 1 exGreat := by
 refine ⟨rfl, fun _ => ⟨g, 0, rfl, h.lt, fun j hj => ?_⟩⟩
 match j, hj with
 | 0, _ => exact ⟨A, 1, c, ⟨h.cell 0, h.cell 1, h.cell 2, h.cell 3, h.cell 4, h.cell 5, h.cell 6, h.cell 7, h.cell 8⟩, hs, by decide⟩
theorem ua_six (h : Blk w g t #[.int .i64 0, .int .i64 0, .slice A 1 c, .int .i64 1, .int .i64 1, .int .i64 0, .int .i64 0, .int .i64 0, .int .i64 1, .int .i64 0, .int .i64 0, .slice A 1 c, .int .i64 1, .int .i64 1, .int .i64 0, .int .i64 0, .int .i64 0, .int .i64 1, .int .i64 0, .int .i64 0, .slice A 1 c, .int .i64 1, .int .i64 1, .int .i64 0, .int .i64 0, .int .i64 0, .int .i64 1, .int .i64 0, .int .i64 0, .slice A 1 c, .int .i64 1, .int .i64 1, .int .i64 0, .int .i64 0, .int .i64 0, .int .i64 1, .int .i64 0, .int .i64 0, .slice A 1 c, .int .i64 1, .int .i64 1, .int .i64 0, .int .i64 0, .int .i64 0, .int .i64 1, .int .i64 0, .int .i64 0, .slice A 1 c, .int .i64 1, .int .i64 1, .int .i64 0, .int .i64 0, .int .i64 0, .int .i64 1]) (hs : StAt w A 1 [(0, 1)]) : UsAt w (some ⟨g, 0, none⟩) 6 [exBad, exBad, exBad, exBad, exBad, exBad] := by
 refine ⟨rfl, fun _ => ⟨g, 0, rfl, h.lt, fun j hj => ?_⟩⟩
 match j, hj with
 | 0, _ => exact ⟨A, 1, c, ⟨h.cell 0, h.cell 1, h.cell 2, h.cell 3, h.cell 4, h.cell 5, h.cell 6, h.cell 7, h.cell 8⟩, hs, by decide⟩
 | 1, _ => exact ⟨A, 1, c, ⟨h.cell 9, h.cell 10, h.cell 11, h.cell 12, h.cell 13, h.cell 14, h.cell 15, h.cell 16, h.cell 17⟩, hs, by decide⟩
 | 2, _ => exact ⟨A, 1, c, ⟨h.cell 18, h.cell 19, h.cell 20, h.cell 21, h.cell 22, h.cell 23, h.cell 24, h.cell 25, h.cell 26⟩, hs, by decide⟩
 | 3, _ => exact ⟨A, 1, c, ⟨h.cell 27, h.cell 28, h.cell 29, h.cell 30, h.cell 31, h.cell 32, h.cell 33, h.cell 34, h.cell 35⟩, hs, by decide⟩
 | 4, _ => exact ⟨A, 1, c, ⟨h.cell 36, h.cell 37, h.cell 38, h.cell 39, h.cell 40, h.cell 41, h.cell 42, h.cell 43, h.cell 44⟩, hs, by decide⟩
 | 5, _ => exact ⟨A, 1, c, ⟨h.cell 45, h.cell 46, h.cell 47, h.cell 48, h.cell 49, h.cell 50, h.cell 51, h.cell 52, h.cell 53⟩, hs, by decide⟩
theorem ba_lit3 {x0 x1 x2 : Bool} (h : Blk w g t #[.bool x0, .bool x1, .bool x2]) : BsAt w (some ⟨g, 0, none⟩) 3 [x0, x1, x2] := by
 refine ⟨rfl, fun _ => ⟨g, 0, rfl, h.lt, fun j hj => ?_⟩⟩
 match j, hj with
 | 0, _ => exact h.cell 0
 | 1, _ => exact h.cell 1
 | 2, _ => exact h.cell 2
theorem gs_n (hι : ∀ z, ι z = ((z : Int) : Rat)) (hy : y = mkRat (qnum 5 2) (qden 2).natAbs) (h : QsAt w A 3 [ι 5, 0, y]) : GsAt 0 w A 3 exQn := by
 have e : [ι 5, 0, y] = exQn := by rw [hι 5, hy]; decide +kernel
 rw [e] at h
 exact gs_small h (by decide +kernel)
theorem gs_onez (h : QsAt w A 1 [0]) : GsAt 0 w A 1 [((0 : Int) : Rat)] := by
 have e : [(0 : Rat)] = [((0 : Int) : Rat)] := by decide +kernel
 rw [← e]
 exact gs_small h (by decide +kernel)
theorem gs_one (hι : ∀ z, ι z = ((z : Int) : Rat)) (h : QsAt w A 1 [ι 1000000]) : GsAt 0 w A 1 [((1000000 : Int) : Rat)] := by
 rw [hι 1000000] at h
 exact gs_small h (by decide +kernel)
theorem gs_q1 (hι : ∀ z, ι z = ((z : Int) : Rat)) (h : QsAt w A 3 [ι 5, ι (-1), 0]) : GsAt 0 w A 3 exQ1 := by
 have e : [ι 5, ι (-1), 0] = exQ1 := by rw [hι 5, hι (-1)]; decide +kernel
 rw [e] at h
 exact gs_small h (by decide +kernel)
theorem gs_q2 (hι : ∀ z, ι z = ((z : Int) : Rat)) (hy : y = mkRat (qnum 13 2) (qden 2).natAbs) (h : QsAt w A 3 [ι 5, y, 0]) : GsAt 0 w A 3 exQ2 := by
 have e : [ι 5, y, 0] = exQ2 := by rw [hι 5, hy]; decide +kernel
 rw [e] at h
 exact gs_small h (by decide +kernel)
theorem wat_1w {x : Nat} (hx : x < 4294967296) (h : Blk w g t #[.int .u32 ((x : Nat) : Int)]) : Wat w (some ⟨g, 0, none⟩) 1 [x] :=
 ⟨rfl, fun d hd => by simp at hd; omega, fun _ => ⟨g, 0, rfl, h.lt, fun j hj => by
  obtain rfl : j = 0 := by omega
  exact h.cell 0⟩⟩
theorem qk_neg0 {g1 g2 : Nat} (h : Blk w g1 t #[.int .u32 0]) (h' : Blk w g2 t' #[.int .u32 3]) : QK 0 w true (some ⟨g1, 0, none⟩) 1 1 true (some ⟨g2, 0, none⟩) 1 1 ((0 : Int) : Rat) :=
 ⟨0, -3, ⟨[0], [3], wat_1w (x := 0) (by decide) h, wat_1w (x := 3) (by decide) h', by decide, by decide, by decide, by decide, by decide +kernel, by decide +kernel⟩, Nat.lt_trans (by decide) (pb_bil 0), Nat.lt_trans (by decide) (pb_bil 0), by decide +kernel⟩
theorem gs_raw (hι : ∀ z, ι z = ((z : Int) : Rat)) (hy : y = mkRat (qnum 5 2) (qden 2).natAbs) {A0 B0 A1 B1 A2 B2 : Option Addr} {k0 c0 j0 e0 k1 c1 j1 e1 k2 c2 j2 e2 : Nat} {s s' : Bool}
  (h : Blk w g t #[.bool (decide ((ι 5).num < 0)), .slice A0 k0 c0, .bool false, .slice B0 j0 e0, .bool s, .slice A1 k1 c1, .bool s', .slice B1 j1 e1, .bool (decide (y.num < 0)), .slice A2 k2 c2, .bool false, .slice B2 j2 e2])
  (h0 : RQ w (ι 5) A0 k0 c0 B0 j0 e0) (h1 : QK 0 w s A1 k1 c1 s' B1 j1 e1 ((0 : Int) : Rat)) (h2 : RQ w y A2 k2 c2 B2 j2 e2) : GsAt 0 w (some ⟨g, 0, none⟩) 3 exQn := by
 have x0 := wat_qk h0.1 h0.2.1 h0.2.2.1 h0.2.2.2 (show Lv 0 (ι 5) by rw [hι 5]; exact lv_small (by decide +kernel)) (by decide)
 have x2 := wat_qk h2.1 h2.2.1 h2.2.2.1 h2.2.2.2 (show Lv 0 y by rw [hy]; exact lv_small (by decide +kernel)) (by decide)
 rw [show exQn = [ι 5, ((0 : Int) : Rat), y] by rw [hι 5, hy]; rfl]
 refine ⟨rfl, fun _ => ⟨g, 0, rfl, h.lt, fun j hj => ?_⟩⟩
 match j, hj with
 | 0, _ => exact ⟨_, _, _, _, _, _, _, _, h.cell 0, h.cell 1, h.cell 2, h.cell 3, x0⟩
 | 1, _ => exact ⟨_, _, _, _, _, _, _, _, h.cell 4, h.cell 5, h.cell 6, h.cell 7, h1⟩
 | 2, _ => exact ⟨_, _, _, _, _, _, _, _, h.cell 8, h.cell 9, h.cell 10, h.cell 11, x2⟩
end
/-- One index after the other. -/
theorem lt_split {P : Nat → Prop} {n : Nat} (h : ∀ i, i < n → P i) (h' : P n) : ∀ i, i < n + 1 → P i := fun i hi => by
 rcases Nat.lt_or_ge i n with hl | hg
 ·exact h i hl
 ·obtain rfl : i = n := by omega
  exact h'

end Go.Proofs.YtodkhjihkkmplaaGreat

namespace Go.Proofs.YtodkhjihkkmplaaGreat
set_option linter.unusedVariables false
set_option linter.unusedSimpArgs false
open Go.RowKit
open Wd

def Vq (q : Rat) (v : Value) (w : World) : Prop := ∃ A k c A' k' c', v = .agg #[.bool (decide (q.num < 0)), .slice A k c, .bool false, .slice A' k' c'] ∧ RQ w q A k c A' k' c'
def VQ (n : Nat) (qs : List Rat) (v : Value) (w : World) : Prop := ∃ g, v = .slice (some ⟨g, 0, none⟩) n n ∧ QsAt w (some ⟨g, 0, none⟩) n qs
def VG (n : Nat) (qs : List Rat) (v : Value) (w : World) : Prop := ∃ g, v = .slice (some ⟨g, 0, none⟩) n n ∧ GsAt 0 w (some ⟨g, 0, none⟩) n qs
def VU (n : Nat) (us : List Un) (v : Value) (w : World) : Prop := ∃ g, v = .slice (some ⟨g, 0, none⟩) n n ∧ UsAt w (some ⟨g, 0, none⟩) n us
theorem Vq.stay (q : Rat) : Stay (Vq q) := fun _ _ _ ⟨A, k, c, A', k', c', h1, h2⟩ hk => ⟨A, k, c, A', k', c', h1, h2.below hk⟩
theorem VQ.stay (n : Nat) (qs : List Rat) : Stay (VQ n qs) := fun _ _ _ ⟨g, h1, h2⟩ hk => ⟨g, h1, h2.below hk⟩
theorem VG.stay (n : Nat) (qs : List Rat) : Stay (VG n qs) := fun _ _ _ ⟨g, h1, h2⟩ hk => ⟨g, h1, h2.below hk⟩
theorem VU.stay (n : Nat) (us : List Un) : Stay (VU n us) := fun _ _ _ ⟨g, h1, h2⟩ hk => ⟨g, h1, h2.below hk⟩

set_option maxRecDepth 100000 in
set_option maxHeartbeats 8000000 in
theorem exs30_any (w : World) : Calls Tryz.prog 5 #[] w fun e w' => e = .returned (.bool true) ∧ Below w.heap.size w w' := by
 go_enter Tryz.func5, Tryz.ntmps5
 go_wp2_with fail
 refine (awake30_any w).mono ?_
 rintro e w1 ⟨rfl, hb1⟩
 have HB1 := Lib.hid hb1
 clear hb1
 go_wp2_with fail
 refine (ex30_any w1).mono ?_
 rintro e w2 ⟨gu, gb, gq, rfl, hu, hb, hq, hb2⟩
 have HX := Lib.hid (And.intro hu (And.intro hb (And.intro hq (HB1.out.trans (hb2.mono HB1.out.size)))))
 clear hu hb hq hb2 HB1
 go_wp2_with fail
 have hx0 : Kp w2 ((w2.alloc (.cells #[.bool false, .slice none 0 0, .bool false, .slice none 0 0] 31)).alloc (.cells #[.bool true, .bool false, .bool true] 4)) := Kp.trans ((Kp.refl w2).alloc (.cells #[.bool false, .slice none 0 0, .bool false, .slice none 0 0] 31)) ((Kp.refl _).alloc (.cells #[.bool true, .bool false, .bool true] 4))
 have H0 := Lib.hid (And.intro hx0 (And.intro ((Blk.new w2 31 #[.bool false, .slice none 0 0, .bool false, .slice none 0 0]).alloc (.cells #[.bool true, .bool false, .bool true] 4)) (Blk.new1 w2 (.cells #[.bool false, .slice none 0 0, .bool false, .slice none 0 0] 31) 4 #[.bool true, .bool false, .bool true])))
 clear hx0
 generalize (w2.alloc (.cells #[.bool false, .slice none 0 0, .bool false, .slice none 0 0] 31)).alloc (.cells #[.bool true, .bool false, .bool true] 4) = W0 at *
 generalize w2.heap.size + 1 = go at *
 generalize w2.heap.size = gz at *
 obtain ⟨ι, hι⟩ : ∃ ι : Int → Rat, ∀ z, ι z = ((z : Int) : Rat) := ⟨fun z => (z : Rat), fun _ => rfl⟩
 obtain ⟨y52, hy52⟩ : ∃ y : Rat, y = mkRat (qnum 5 2) (qden 2).natAbs := ⟨_, rfl⟩
 have TW := Lib.hid (fun (z : Int) (hz : z.natAbs ≤ 1000000) (W : World) => (by rw [hι z]; exact whole_any z W (by unfold Fits; omega) : Calls Tryz.prog 20 #[.int .i64 z] W (RetQ W (ι z))))
 have TO := Lib.hid (fun (W : World) => rofq 5 2 W (by decide) (by decide))
 rw [← hy52] at TO
 obtain ⟨y13, hy13⟩ : ∃ y : Rat, y = mkRat (qnum 13 2) (qden 2).natAbs := ⟨_, rfl⟩
 have TO13 := Lib.hid (fun (W : World) => rofq 13 2 W (by decide) (by decide))
 rw [← hy13] at TO13
 have TO5 := TO
 have HY13 := Lib.hid hy13
 clear hy13
 have F0 := Lib.hid (show Fits 0 by unfold Fits; omega)
 have F1 := Lib.hid (show Fits 1000000 by unfold Fits; omega)
 have HI := Lib.hid hι
 have HY := Lib.hid hy52
 clear hι hy52
 have HS := Lib.hid (show ∀ w', Kp W0 w' → (w'.cell? ⟨gz, 0, none⟩ = some (.bool false) ∧ w'.cell? ⟨gz, 1, none⟩ = some (.slice none 0 0) ∧ w'.cell? ⟨gz, 2, none⟩ = some (.bool false) ∧ w'.cell? ⟨gz, 3, none⟩ = some (.slice none 0 0)) ∧ Kp W0 w' from fun w' hk => ⟨⟨(hk.blk H0.out.2.1).cell 0, (hk.blk H0.out.2.1).cell 1, (hk.blk H0.out.2.1).cell 2, (hk.blk H0.out.2.1).cell 3⟩, hk⟩)
 refine wp_region_held_drew (S := fun w' => (w'.cell? ⟨gz, 0, none⟩ = some (.bool false) ∧ w'.cell? ⟨gz, 1, none⟩ = some (.slice none 0 0) ∧ w'.cell? ⟨gz, 2, none⟩ = some (.bool false) ∧ w'.cell? ⟨gz, 3, none⟩ = some (.slice none 0 0)) ∧ Kp W0 w') (by kernel_rfl) (HS.out _ (Kp.drew (Kp.refl W0))) (fun hHeld => ?_)
 refine' tkk 0 rfl (by kernel_rfl) (fun _ _ _ h => h) (.inl ⟨by rfl, ?_⟩) (by assumption) ?_; rotate_left
 ·(intro w hSw; (try dsimp only at hSw); (try simp only [p1, p2, p3]); go_simp; first | done | with_reducible rfl)
 (try simp only [Act.put, p1, p2, p3, p4, p5, p6])
 refine' tkk 2 rfl (by kernel_rfl) (fun _ _ _ h => h) (.inl ⟨by rfl, ?_⟩) (by assumption) ?_; rotate_left
 ·(intro w hSw; (try dsimp only at hSw); (try simp only [p1, p2, p3]); go_simp; first | done | with_reducible rfl)
 (try simp only [Act.put, p1, p2, p3, p4, p5, p6])
 refine wpAnyH_ready (rs := [1]) (by kernel_rfl) (by simp) ?_
 refine AllReadyH.cons rfl (fun K hK => ?_) AllReadyH.nil
 (try simp only [p1, p2, p3])
 go_simp
 have hk := And.right ‹_ ∧ Kp W0 _›
 refine (TW.out 5 (by decide) _).mono ?_
 rintro e v1 ⟨A1, k1, c1, B1, j1, e1, rfl, hk9, hj9, hW9, hX9, -, -, hbx⟩
 have hp := Kp.trans hk hbx
 have r1 : RQ v1 (ι 5) A1 k1 c1 B1 j1 e1 := ⟨hk9, hj9, hW9, hX9⟩
 clear hk hbx hk9 hj9 hW9 hX9
 (try (go_wp2_with fail))
 refine hK.out _ _ ?k1 (fun hHeld1 => ?n1)
 case k1 => ((try dsimp only); first | (with_reducible refine HS.out _ ?_; with_reducible assumption) | (with_reducible refine HS.out _ (Kp.drew ?_); with_reducible assumption) | (with_reducible refine' HS.out _ (Kp.drew (And.right ?_)); rotate_left; with_reducible assumption) | (with_reducible refine' HS.out _ (Kp.alloc (And.right ?_) _); rotate_left; with_reducible assumption))
 clear hK K
 (try simp only [Act.put, p1, p2, p3, p4, p5, p6])
 refine wpAnyH_ready (rs := [3]) (by kernel_rfl) (by simp) ?_
 refine AllReadyH.cons rfl (fun K hK => ?_) AllReadyH.nil
 (try simp only [p1, p2, p3])
 go_simp
 have hk := And.right ‹_ ∧ Kp W0 _›
 refine (TO.out _).mono ?_
 rintro e v3 ⟨A3, k3, c3, B3, j3, e3, rfl, hk9, hj9, hW9, hX9, -, -, hbx⟩
 have hp := Kp.trans hk hbx
 have r3 : RQ v3 (y52) A3 k3 c3 B3 j3 e3 := ⟨hk9, hj9, hW9, hX9⟩
 have r1 := RQ.below r1 hbx
 clear hk hbx hk9 hj9 hW9 hX9
 (try (go_wp2_with fail))
 refine hK.out _ _ ?k2 (fun hHeld2 => ?n2)
 case k2 => ((try dsimp only); first | (with_reducible refine HS.out _ ?_; with_reducible assumption) | (with_reducible refine HS.out _ (Kp.drew ?_); with_reducible assumption) | (with_reducible refine' HS.out _ (Kp.drew (And.right ?_)); rotate_left; with_reducible assumption) | (with_reducible refine' HS.out _ (Kp.alloc (And.right ?_) _); rotate_left; with_reducible assumption))
 clear hK K
 (try simp only [Act.put, p1, p2, p3, p4, p5, p6])
 refine wpAnyH_ready (rs := [4]) (by kernel_rfl) (by simp) ?_
 refine AllReadyH.cons rfl (fun K hK => ?_) AllReadyH.nil
 (try simp only [p1, p2, p3])
 go_simp
 have hk := And.right ‹_ ∧ Kp W0 _›
 have ka := (Kp.refl v3).alloc (.cells #[.bool (decide ((ι 5).num < 0)), .slice A1 k1 c1, .bool false, .slice B1 j1 e1, .bool false, .slice none 0 0, .bool false, .slice none 0 0, .bool (decide (y52.num < 0)), .slice A3 k3 c3, .bool false, .slice B3 j3 e3] 31)
 have HROW := Lib.hid (And.intro (Kp.trans hk ka) (QsAt.lit3 (Blk.new v3 31 #[.bool (decide ((ι 5).num < 0)), .slice A1 k1 c1, .bool false, .slice B1 j1 e1, .bool false, .slice none 0 0, .bool false, .slice none 0 0, .bool (decide (y52.num < 0)), .slice A3 k3 c3, .bool false, .slice B3 j3 e3]) (r1.below ka) (rq_zero _) (r3.below ka) rfl rfl rfl))
 clear r1 r3 ka hk hp
 refine hK.out _ _ ?k3 (fun hHeld3 => ?n3)
 case k3 => ((try dsimp only); first | (with_reducible refine HS.out _ ?_; with_reducible assumption) | (with_reducible refine HS.out _ (Kp.drew ?_); with_reducible assumption) | (with_reducible refine' HS.out _ (Kp.drew (And.right ?_)); rotate_left; with_reducible assumption) | (with_reducible refine' HS.out _ (Kp.alloc (And.right ?_) _); rotate_left; with_reducible assumption))
 clear hK K
 (try simp only [Act.put, p1, p2, p3, p4, p5, p6])
 refine' tkk 5 rfl (by kernel_rfl) (fun _ _ _ h => h) (.inl ⟨by rfl, ?_⟩) (by assumption) ?_; rotate_left
 ·(intro w hSw; (try dsimp only at hSw); (try simp only [p1, p2, p3]); go_simp; first | done | with_reducible rfl)
 (try simp only [Act.put, p1, p2, p3, p4, p5, p6])
 refine wpAnyH_done (by kernel_rfl) ?_ _
 (try go_wp2_with fail)
 generalize v3.alloc (.cells #[.bool (decide ((ι 5).num < 0)), .slice A1 k1 c1, .bool false, .slice B1 j1 e1, .bool false, .slice none 0 0, .bool false, .slice none 0 0, .bool (decide (y52.num < 0)), .slice A3 k3 c3, .bool false, .slice B3 j3 e3] 31) = W7 at *
 generalize v3.heap.size = gn at *
 refine (made_any 0 0 W7 (by unfold Fits; omega) (by unfold Fits; omega)).mono ?_
 rintro e w8 ⟨gw, rfl, hst, -, hb8⟩
 have H8 := Lib.hid (And.intro hst hb8)
 clear hst hb8 HS
 obtain ⟨l0, l1, l2, l3, l4, l5, l6, l7, l8⟩ : _ ∧ _ ∧ _ ∧ _ ∧ _ ∧ _ ∧ _ ∧ _ ∧ _ := ⟨(Blk.new w8 48 #[.int .i64 0, .int .i64 0, .slice (some ⟨gw, 0, none⟩) 1 1, .int .i64 1, .int .i64 1, .int .i64 0, .int .i64 0, .int .i64 0, .int .i64 1]).cell 0, (Blk.new w8 48 #[.int .i64 0, .int .i64 0, .slice (some ⟨gw, 0, none⟩) 1 1, .int .i64 1, .int .i64 1, .int .i64 0, .int .i64 0, .int .i64 0, .int .i64 1]).cell 1, (Blk.new w8 48 #[.int .i64 0, .int .i64 0, .slice (some ⟨gw, 0, none⟩) 1 1, .int .i64 1, .int .i64 1, .int .i64 0, .int .i64 0, .int .i64 0, .int .i64 1]).cell 2, (Blk.new w8 48 #[.int .i64 0, .int .i64 0, .slice (some ⟨gw, 0, none⟩) 1 1, .int .i64 1, .int .i64 1, .int .i64 0, .int .i64 0, .int .i64 0, .int .i64 1]).cell 3, (Blk.new w8 48 #[.int .i64 0, .int .i64 0, .slice (some ⟨gw, 0, none⟩) 1 1, .int .i64 1, .int .i64 1, .int .i64 0, .int .i64 0, .int .i64 0, .int .i64 1]).cell 4, (Blk.new w8 48 #[.int .i64 0, .int .i64 0, .slice (some ⟨gw, 0, none⟩) 1 1, .int .i64 1, .int .i64 1, .int .i64 0, .int .i64 0, .int .i64 0, .int .i64 1]).cell 5, (Blk.new w8 48 #[.int .i64 0, .int .i64 0, .slice (some ⟨gw, 0, none⟩) 1 1, .int .i64 1, .int .i64 1, .int .i64 0, .int .i64 0, .int .i64 0, .int .i64 1]).cell 6, (Blk.new w8 48 #[.int .i64 0, .int .i64 0, .slice (some ⟨gw, 0, none⟩) 1 1, .int .i64 1, .int .i64 1, .int .i64 0, .int .i64 0, .int .i64 0, .int .i64 1]).cell 7, (Blk.new w8 48 #[.int .i64 0, .int .i64 0, .slice (some ⟨gw, 0, none⟩) 1 1, .int .i64 1, .int .i64 1, .int .i64 0, .int .i64 0, .int .i64 0, .int .i64 1]).cell 8⟩
 go_wp2_with fail
 have H9 := Lib.hid (And.intro (Kp.trans ((Kp.refl w8).alloc (.cells #[.int .i64 0, .int .i64 0, .slice (some ⟨gw, 0, none⟩) 1 1, .int .i64 1, .int .i64 1, .int .i64 0, .int .i64 0, .int .i64 0, .int .i64 1] 48)) ((Kp.refl _).alloc (.cells #[.int .i64 0, .int .i64 0, .slice (some ⟨gw, 0, none⟩) 1 1, .int .i64 1, .int .i64 1, .int .i64 0, .int .i64 0, .int .i64 0, .int .i64 1, .int .i64 0, .int .i64 0, .slice (some ⟨gw, 0, none⟩) 1 1, .int .i64 1, .int .i64 1, .int .i64 0, .int .i64 0, .int .i64 0, .int .i64 1, .int .i64 0, .int .i64 0, .slice (some ⟨gw, 0, none⟩) 1 1, .int .i64 1, .int .i64 1, .int .i64 0, .int .i64 0, .int .i64 0, .int .i64 1, .int .i64 0, .int .i64 0, .slice (some ⟨gw, 0, none⟩) 1 1, .int .i64 1, .int .i64 1, .int .i64 0, .int .i64 0, .int .i64 0, .int .i64 1, .int .i64 0, .int .i64 0, .slice (some ⟨gw, 0, none⟩) 1 1, .int .i64 1, .int .i64 1, .int .i64 0, .int .i64 0, .int .i64 0, .int .i64 1, .int .i64 0, .int .i64 0, .slice (some ⟨gw, 0, none⟩) 1 1, .int .i64 1, .int .i64 1, .int .i64 0, .int .i64 0, .int .i64 0, .int .i64 1] 48))) (And.intro ((Blk.new w8 48 #[.int .i64 0, .int .i64 0, .slice (some ⟨gw, 0, none⟩) 1 1, .int .i64 1, .int .i64 1, .int .i64 0, .int .i64 0, .int .i64 0, .int .i64 1]).alloc (.cells #[.int .i64 0, .int .i64 0, .slice (some ⟨gw, 0, none⟩) 1 1, .int .i64 1, .int .i64 1, .int .i64 0, .int .i64 0, .int .i64 0, .int .i64 1, .int .i64 0, .int .i64 0, .slice (some ⟨gw, 0, none⟩) 1 1, .int .i64 1, .int .i64 1, .int .i64 0, .int .i64 0, .int .i64 0, .int .i64 1, .int .i64 0, .int .i64 0, .slice (some ⟨gw, 0, none⟩) 1 1, .int .i64 1, .int .i64 1, .int .i64 0, .int .i64 0, .int .i64 0, .int .i64 1, .int .i64 0, .int .i64 0, .slice (some ⟨gw, 0, none⟩) 1 1, .int .i64 1, .int .i64 1, .int .i64 0, .int .i64 0, .int .i64 0, .int .i64 1, .int .i64 0, .int .i64 0, .slice (some ⟨gw, 0, none⟩) 1 1, .int .i64 1, .int .i64 1, .int .i64 0, .int .i64 0, .int .i64 0, .int .i64 1, .int .i64 0, .int .i64 0, .slice (some ⟨gw, 0, none⟩) 1 1, .int .i64 1, .int .i64 1, .int .i64 0, .int .i64 0, .int .i64 0, .int .i64 1] 48)) (Blk.new1 w8 (.cells #[.int .i64 0, .int .i64 0, .slice (some ⟨gw, 0, none⟩) 1 1, .int .i64 1, .int .i64 1, .int .i64 0, .int .i64 0, .int .i64 0, .int .i64 1] 48) 48 #[.int .i64 0, .int .i64 0, .slice (some ⟨gw, 0, none⟩) 1 1, .int .i64 1, .int .i64 1, .int .i64 0, .int .i64 0, .int .i64 0, .int .i64 1, .int .i64 0, .int .i64 0, .slice (some ⟨gw, 0, none⟩) 1 1, .int .i64 1, .int .i64 1, .int .i64 0, .int .i64 0, .int .i64 0, .int .i64 1, .int .i64 0, .int .i64 0, .slice (some ⟨gw, 0, none⟩) 1 1, .int .i64 1, .int .i64 1, .int .i64 0, .int .i64 0, .int .i64 0, .int .i64 1, .int .i64 0, .int .i64 0, .slice (some ⟨gw, 0, none⟩) 1 1, .int .i64 1, .int .i64 1, .int .i64 0, .int .i64 0, .int .i64 0, .int .i64 1, .int .i64 0, .int .i64 0, .slice (some ⟨gw, 0, none⟩) 1 1, .int .i64 1, .int .i64 1, .int .i64 0, .int .i64 0, .int .i64 0, .int .i64 1, .int .i64 0, .int .i64 0, .slice (some ⟨gw, 0, none⟩) 1 1, .int .i64 1, .int .i64 1, .int .i64 0, .int .i64 0, .int .i64 0, .int .i64 1])))
 clear l0 l1 l2 l3 l4 l5 l6 l7 l8
 generalize (w8.alloc (.cells #[.int .i64 0, .int .i64 0, .slice (some ⟨gw, 0, none⟩) 1 1, .int .i64 1, .int .i64 1, .int .i64 0, .int .i64 0, .int .i64 0, .int .i64 1] 48)).alloc (.cells #[.int .i64 0, .int .i64 0, .slice (some ⟨gw, 0, none⟩) 1 1, .int .i64 1, .int .i64 1, .int .i64 0, .int .i64 0, .int .i64 0, .int .i64 1, .int .i64 0, .int .i64 0, .slice (some ⟨gw, 0, none⟩) 1 1, .int .i64 1, .int .i64 1, .int .i64 0, .int .i64 0, .int .i64 0, .int .i64 1, .int .i64 0, .int .i64 0, .slice (some ⟨gw, 0, none⟩) 1 1, .int .i64 1, .int .i64 1, .int .i64 0, .int .i64 0, .int .i64 0, .int .i64 1, .int .i64 0, .int .i64 0, .slice (some ⟨gw, 0, none⟩) 1 1, .int .i64 1, .int .i64 1, .int .i64 0, .int .i64 0, .int .i64 0, .int .i64 1, .int .i64 0, .int .i64 0, .slice (some ⟨gw, 0, none⟩) 1 1, .int .i64 1, .int .i64 1, .int .i64 0, .int .i64 0, .int .i64 0, .int .i64 1, .int .i64 0, .int .i64 0, .slice (some ⟨gw, 0, none⟩) 1 1, .int .i64 1, .int .i64 1, .int .i64 0, .int .i64 0, .int .i64 0, .int .i64 1] 48) = W9 at *
 generalize w8.heap.size + 1 = gs at *
 generalize w8.heap.size = gm at *
 refine (made_any 1000000 1000000 W9 (by unfold Fits; omega) (by unfold Fits; omega)).mono ?_
 rintro e w10 ⟨gv, rfl, hst, -, hb10⟩
 have H10 := Lib.hid (And.intro hst hb10)
 clear hst hb10
 go_wp2_with fail
 have ka1 := (Kp.refl w10).alloc (.cells #[.int .i64 0, .int .i64 0, .slice (some ⟨gv, 0, none⟩) 1 1, .int .i64 1, .int .i64 1, .int .i64 0, .int .i64 0, .int .i64 1000000, .int .i64 1] 48)
 have ka2 := Kp.trans ka1 ((Kp.refl _).alloc (.cells #[.int .u32 0] 50))
 have ka3 := Kp.trans ka2 ((Kp.refl _).alloc (.cells #[.int .u32 3] 50))
 have ka4 := Kp.trans ka3 ((Kp.refl _).alloc (.cells #[.bool true, .slice (some ⟨w10.heap.size + 1, 0, none⟩) 1 1, .bool true, .slice (some ⟨w10.heap.size + 1 + 1, 0, none⟩) 1 1] 31))
 have bg := (((Blk.new w10 48 #[.int .i64 0, .int .i64 0, .slice (some ⟨gv, 0, none⟩) 1 1, .int .i64 1, .int .i64 1, .int .i64 0, .int .i64 0, .int .i64 1000000, .int .i64 1]).alloc (.cells #[.int .u32 0] 50)).alloc (.cells #[.int .u32 3] 50)).alloc (.cells #[.bool true, .slice (some ⟨w10.heap.size + 1, 0, none⟩) 1 1, .bool true, .slice (some ⟨w10.heap.size + 1 + 1, 0, none⟩) 1 1] 31)
 have b1 := ((Blk.new1 w10 (.cells #[.int .i64 0, .int .i64 0, .slice (some ⟨gv, 0, none⟩) 1 1, .int .i64 1, .int .i64 1, .int .i64 0, .int .i64 0, .int .i64 1000000, .int .i64 1] 48) 50 #[.int .u32 0]).alloc (.cells #[.int .u32 3] 50)).alloc (.cells #[.bool true, .slice (some ⟨w10.heap.size + 1, 0, none⟩) 1 1, .bool true, .slice (some ⟨w10.heap.size + 1 + 1, 0, none⟩) 1 1] 31)
 have b2 := (Blk.new2 w10 (.cells #[.int .i64 0, .int .i64 0, .slice (some ⟨gv, 0, none⟩) 1 1, .int .i64 1, .int .i64 1, .int .i64 0, .int .i64 0, .int .i64 1000000, .int .i64 1] 48) (.cells #[.int .u32 0] 50) 50 #[.int .u32 3]).alloc (.cells #[.bool true, .slice (some ⟨w10.heap.size + 1, 0, none⟩) 1 1, .bool true, .slice (some ⟨w10.heap.size + 1 + 1, 0, none⟩) 1 1] 31)
 have br := Blk.new3 w10 (.cells #[.int .i64 0, .int .i64 0, .slice (some ⟨gv, 0, none⟩) 1 1, .int .i64 1, .int .i64 1, .int .i64 0, .int .i64 0, .int .i64 1000000, .int .i64 1] 48) (.cells #[.int .u32 0] 50) (.cells #[.int .u32 3] 50) 31 #[.bool true, .slice (some ⟨w10.heap.size + 1, 0, none⟩) 1 1, .bool true, .slice (some ⟨w10.heap.size + 1 + 1, 0, none⟩) 1 1]
 have HB := Lib.hid (And.intro ka4 (And.intro bg (And.intro b1 (And.intro b2 br))))
 clear ka1 ka2 ka3 ka4 bg b1 b2 br
 generalize (((w10.alloc (.cells #[.int .i64 0, .int .i64 0, .slice (some ⟨gv, 0, none⟩) 1 1, .int .i64 1, .int .i64 1, .int .i64 0, .int .i64 0, .int .i64 1000000, .int .i64 1] 48)).alloc (.cells #[.int .u32 0] 50)).alloc (.cells #[.int .u32 3] 50)).alloc (.cells #[.bool true, .slice (some ⟨w10.heap.size + 1, 0, none⟩) 1 1, .bool true, .slice (some ⟨w10.heap.size + 1 + 1, 0, none⟩) 1 1] 31) = W at *
 generalize w10.heap.size + 1 + 1 + 1 = gr at *
 generalize w10.heap.size + 1 + 1 = g2 at *
 generalize w10.heap.size + 1 = g1 at *
 generalize w10.heap.size = gg at *
 have WK9 : Kp W9 W := Kp.trans H10.out.2 HB.out.1
 have WK8 : Kp w8 W := Kp.trans H9.out.1 WK9
 have WK7 : Kp W7 W := Kp.trans H8.out.2 WK8
 have WK0 : Kp W0 W := Kp.trans HROW.out.1 WK7
 have WK2 : Kp w2 W := Kp.trans H0.out.1 WK0
 have HZ := Lib.hid (And.intro (Kp.blk WK0 H0.out.2.1) (And.intro HB.out.2.2.2.2 (Kp.blk WK9 H9.out.2.1)))
 have HS := Lib.hid (show ∀ w', Kp W w' → (w'.cell? ⟨gz, 0, none⟩ = some (.bool false) ∧ w'.cell? ⟨gz, 1, none⟩ = some (.slice none 0 0) ∧ w'.cell? ⟨gz, 2, none⟩ = some (.bool false) ∧ w'.cell? ⟨gz, 3, none⟩ = some (.slice none 0 0) ∧ w'.cell? ⟨gr, 0, none⟩ = some (.bool true) ∧ w'.cell? ⟨gr, 1, none⟩ = some (.slice (some ⟨g1, 0, none⟩) 1 1) ∧ w'.cell? ⟨gr, 2, none⟩ = some (.bool true) ∧ w'.cell? ⟨gr, 3, none⟩ = some (.slice (some ⟨g2, 0, none⟩) 1 1) ∧ w'.cell? ⟨gm, 0, none⟩ = some (.int .i64 0) ∧ w'.cell? ⟨gm, 1, none⟩ = some (.int .i64 0) ∧ w'.cell? ⟨gm, 2, none⟩ = some (.slice (some ⟨gw, 0, none⟩) 1 1) ∧ w'.cell? ⟨gm, 3, none⟩ = some (.int .i64 1) ∧ w'.cell? ⟨gm, 4, none⟩ = some (.int .i64 1) ∧ w'.cell? ⟨gm, 5, none⟩ = some (.int .i64 0) ∧ w'.cell? ⟨gm, 6, none⟩ = some (.int .i64 0) ∧ w'.cell? ⟨gm, 7, none⟩ = some (.int .i64 0) ∧ w'.cell? ⟨gm, 8, none⟩ = some (.int .i64 1)) ∧ Kp W w' from fun w' hk => ⟨⟨(hk.blk HZ.out.1).cell 0, (hk.blk HZ.out.1).cell 1, (hk.blk HZ.out.1).cell 2, (hk.blk HZ.out.1).cell 3, (hk.blk HZ.out.2.1).cell 0, (hk.blk HZ.out.2.1).cell 1, (hk.blk HZ.out.2.1).cell 2, (hk.blk HZ.out.2.1).cell 3, (hk.blk HZ.out.2.2).cell 0, (hk.blk HZ.out.2.2).cell 1, (hk.blk HZ.out.2.2).cell 2, (hk.blk HZ.out.2.2).cell 3, (hk.blk HZ.out.2.2).cell 4, (hk.blk HZ.out.2.2).cell 5, (hk.blk HZ.out.2.2).cell 6, (hk.blk HZ.out.2.2).cell 7, (hk.blk HZ.out.2.2).cell 8⟩, hk⟩)
 have ha := (st_one H8.out.1 F0.out).below WK8
 have HU := Lib.hid (And.intro (HX.out.1.below WK2) (And.intro (HX.out.2.1.below WK2) (And.intro (HX.out.2.2.1.below WK2) (And.intro (ba_lit3 (Kp.blk WK0 H0.out.2.2)) (And.intro (gs_n HI.out HY.out (HROW.out.2.below WK7)) (And.intro (ua_six (Kp.blk WK9 H9.out.2.2) ha) (And.intro (ua_great HB.out.2.1 ((st_one H10.out.1 F1.out).below HB.out.1)) (And.intro ha (qk_neg0 HB.out.2.2.1 HB.out.2.2.2.1)))))))))
 have HX9 := Lib.hid (HX.out.2.2.2.trans (Below.mono WK2 (Below.size HX.out.2.2.2)))
 clear ha WK0 WK2 WK7 WK8 WK9 HX H0 H8 H9 H10 HB HROW HZ
 simp only [List.append_eq, List.cons_append, List.nil_append]
 refine region_pre 47 117 (by kernel_rfl) (fun pre hpre => ?_)
 have HL : pre.length = 47 := by rw [hpre]; rfl
 have p1 : pre[1]? = some (Value.slice (some ⟨gu, 0, none⟩) 3 3) := by rw [hpre]; rfl
 have p2 : pre[2]? = some (Value.slice (some ⟨gb, 0, none⟩) 3 3) := by rw [hpre]; rfl
 have p3 : pre[3]? = some (Value.slice (some ⟨gq, 0, none⟩) 3 3) := by rw [hpre]; rfl
 have p4 : pre[4]? = some (Value.func (Fn.func 20) #[] #[]) := by rw [hpre]; rfl
 have p5 : pre[5]? = some (Value.pointer (some ⟨gz, 0, none⟩)) := by rw [hpre]; rfl
 have p6 : pre[6]? = some (Value.slice (some ⟨go, 0, none⟩) 3 3) := by rw [hpre]; rfl
 have p7 : pre[7]? = some (Value.slice (some ⟨gn, 0, none⟩) 3 3) := by rw [hpre]; rfl
 have p8 : pre[8]? = some (Value.pointer (some ⟨gm, 0, none⟩)) := by rw [hpre]; rfl
 have p9 : pre[9]? = some (Value.slice (some ⟨gs, 0, none⟩) 6 6) := by rw [hpre]; rfl
 have p10 : pre[10]? = some (Value.slice (some ⟨gg, 0, none⟩) 1 1) := by rw [hpre]; rfl
 have p11 : pre[11]? = some (Value.pointer (some ⟨gr, 0, none⟩)) := by rw [hpre]; rfl
 have HP := Lib.hid (And.intro p1 (And.intro p2 (And.intro p3 (And.intro p4 (And.intro p5 (And.intro p6 (And.intro p7 (And.intro p8 (And.intro p9 (And.intro p10 p11))))))))))
 clear p1 p2 p3 p4 p5 p6 p7 p8 p9 p10 p11 hpre
 refine wp_region_gather 117 1 (mkL pre 117) (fun _ => undef) (Vr [Vis (Value.slice (some ⟨gu, 0, none⟩) 3 3), Vis (Value.slice (some ⟨go, 0, none⟩) 3 3), Vis (Value.slice (some ⟨gn, 0, none⟩) 3 3), Vis (Value.agg #[Value.bool false, Value.slice none 0 0, Value.bool false, Value.slice none 0 0]), Vis (Value.func (Fn.func 20) #[] #[]), Vq (ι (4)), Vis (Value.agg #[Value.bool false, Value.slice none 0 0, Value.bool false, Value.slice none 0 0]), Vis (Value.func (Fn.func 20) #[] #[]), Vq (ι (2)), VQ 3 [ι (4), 0, ι (2)], Vis (Value.bool true), Vis (Value.bool true), Vis (Value.slice (some ⟨gu, 0, none⟩) 3 3), Vis (Value.slice (some ⟨go, 0, none⟩) 3 3), Vis (Value.func (Fn.func 20) #[] #[]), Vq (ι (5)), Vis (Value.agg #[Value.bool true, Value.slice (some ⟨g1, 0, none⟩) 1 1, Value.bool true, Value.slice (some ⟨g2, 0, none⟩) 1 1]), Vq (y52), VG 3 exQn, Vis (Value.agg #[Value.bool false, Value.slice none 0 0, Value.bool false, Value.slice none 0 0]), Vis (Value.agg #[Value.bool false, Value.slice none 0 0, Value.bool false, Value.slice none 0 0]), Vis (Value.agg #[Value.bool false, Value.slice none 0 0, Value.bool false, Value.slice none 0 0]), Vis (Value.agg #[Value.bool false, Value.slice none 0 0, Value.bool false, Value.slice none 0 0]), VQ 3 [0, 0, 0], Vis (Value.bool true), Vis (Value.bool true), Vis (Value.bool true), Vis (Value.func (Fn.func 20) #[] #[]), Vq (ι (3)), Vis (Value.bool true), Vis (Value.bool true), Vis (Value.bool true), Vis (Value.slice (some ⟨gg, 0, none⟩) 1 1), Vis (Value.slice (some ⟨gb, 0, none⟩) 3 3), Vis (Value.slice (some ⟨gb, 0, none⟩) 1 3), Vis (Value.agg #[Value.bool false, Value.slice none 0 0, Value.bool false, Value.slice none 0 0]), VQ 1 [0], Vis (Value.agg #[Value.bool false, Value.slice none 0 0, Value.bool false, Value.slice none 0 0]), Vis (Value.func (Fn.func 20) #[] #[]), Vq (ι (1000000)), VQ 1 [ι (1000000)], Vis (Value.bool true), Vis (Value.bool true), Vis (Value.bool true), Vis (Value.slice (some ⟨gg, 0, none⟩) 1 1), Vis (Value.slice (some ⟨gb, 0, none⟩) 3 3), Vis (Value.slice (some ⟨gb, 0, none⟩) 1 3), Vis (Value.func (Fn.func 20) #[] #[]), Vq (ι (1000000)), VQ 1 [ι (1000000)], Vis (Value.func (Fn.func 20) #[] #[]), Vq (ι (1000000)), Vis (Value.agg #[Value.bool false, Value.slice none 0 0, Value.bool false, Value.slice none 0 0]), VQ 1 [0], Vis (Value.bool true), Vis (Value.bool true), Vis (Value.bool true), Vis (Value.slice (some ⟨gs, 0, none⟩) 6 6), Vis (Value.bool true), Vis (Value.bool true), Vis (Value.bool true), Vis (Value.agg #[Value.int .i64 0, Value.int .i64 0, Value.slice (some ⟨gw, 0, none⟩) 1 1, Value.int .i64 1, Value.int .i64 1, Value.int .i64 0, Value.int .i64 0, Value.int .i64 0, Value.int .i64 1]), VU 1 [exBad], Vis (Value.bool true), Vis (Value.bool true), Vis (Value.bool true), Vis (Value.slice (some ⟨gu, 0, none⟩) 3 3), Vis (Value.slice (some ⟨gb, 0, none⟩) 3 3), Vis (Value.slice (some ⟨gb, 0, none⟩) 2 3), Vis (Value.bool true), Vis (Value.bool true), Vis (Value.bool true), Vis (Value.slice (some ⟨gu, 0, none⟩) 3 3), Vis (Value.slice (some ⟨gb, 0, none⟩) 3 3), Vis (Value.slice (some ⟨gq, 0, none⟩) 3 3), Vis (Value.slice (some ⟨gq, 0, none⟩) 2 3), Vis (Value.bool true), Vis (Value.bool true), Vis (Value.bool true), Vis (Value.slice (some ⟨gu, 0, none⟩) 3 3), Vis (Value.slice (some ⟨go, 0, none⟩) 3 3), Vis (Value.slice (some ⟨gq, 0, none⟩) 3 3), Vis (Value.bool true), Vis (Value.bool true), Vis (Value.bool true), Vis (Value.slice (some ⟨gu, 0, none⟩) 3 3), Vis (Value.slice (some ⟨gb, 0, none⟩) 3 3), Vis (Value.func (Fn.func 20) #[] #[]), Vq (ι (5)), Vis (Value.func (Fn.func 20) #[] #[]), Vq (ι (-1)), Vis (Value.agg #[Value.bool false, Value.slice none 0 0, Value.bool false, Value.slice none 0 0]), VQ 3 [ι (5), ι (-1), 0], Vis (Value.bool true), Vis (Value.bool true), Vis (Value.bool true), Vis (Value.slice (some ⟨gu, 0, none⟩) 3 3), Vis (Value.slice (some ⟨gb, 0, none⟩) 3 3), Vis (Value.func (Fn.func 20) #[] #[]), Vq (ι (5)), Vq (y13), Vis (Value.agg #[Value.bool false, Value.slice none 0 0, Value.bool false, Value.slice none 0 0]), VQ 3 [ι (5), y13, 0], Vis (Value.bool true), Vis (Value.bool true), Vis (Value.bool true), Vis (Value.slice (some ⟨gu, 0, none⟩) 3 3), Vis (Value.slice (some ⟨gb, 0, none⟩) 3 3), Vis (Value.slice (some ⟨gq, 0, none⟩) 3 3), Vis (Value.bool true), Vis (Value.bool true), Vis (Value.bool true), Vis (Value.slice (some ⟨gu, 0, none⟩) 3 3), Vis (Value.slice (some ⟨gb, 0, none⟩) 3 3), Vis (Value.slice (some ⟨gq, 0, none⟩) 3 3), Vis (Value.bool true), Vis (Value.bool true)]) (fun _ _ _ _ => True) (fun w' => (w'.cell? ⟨gz, 0, none⟩ = some (.bool false) ∧ w'.cell? ⟨gz, 1, none⟩ = some (.slice none 0 0) ∧ w'.cell? ⟨gz, 2, none⟩ = some (.bool false) ∧ w'.cell? ⟨gz, 3, none⟩ = some (.slice none 0 0) ∧ w'.cell? ⟨gr, 0, none⟩ = some (.bool true) ∧ w'.cell? ⟨gr, 1, none⟩ = some (.slice (some ⟨g1, 0, none⟩) 1 1) ∧ w'.cell? ⟨gr, 2, none⟩ = some (.bool true) ∧ w'.cell? ⟨gr, 3, none⟩ = some (.slice (some ⟨g2, 0, none⟩) 1 1) ∧ w'.cell? ⟨gm, 0, none⟩ = some (.int .i64 0) ∧ w'.cell? ⟨gm, 1, none⟩ = some (.int .i64 0) ∧ w'.cell? ⟨gm, 2, none⟩ = some (.slice (some ⟨gw, 0, none⟩) 1 1) ∧ w'.cell? ⟨gm, 3, none⟩ = some (.int .i64 1) ∧ w'.cell? ⟨gm, 4, none⟩ = some (.int .i64 1) ∧ w'.cell? ⟨gm, 5, none⟩ = some (.int .i64 0) ∧ w'.cell? ⟨gm, 6, none⟩ = some (.int .i64 0) ∧ w'.cell? ⟨gm, 7, none⟩ = some (.int .i64 0) ∧ w'.cell? ⟨gm, 8, none⟩ = some (.int .i64 1)) ∧ Kp W w') Kp (by kernel_rfl) (by kernel_rfl) rfl (HS.out _ (Kp.drew (Kp.refl W))) (Vr.keep (by simp only [List.forall_mem_cons]; exact ⟨Vis.stay _, Vis.stay _, Vis.stay _, Vis.stay _, Vis.stay _, Vq.stay _, Vis.stay _, Vis.stay _, Vq.stay _, VQ.stay _ _, Vis.stay _, Vis.stay _, Vis.stay _, Vis.stay _, Vis.stay _, Vq.stay _, Vis.stay _, Vq.stay _, VG.stay _ _, Vis.stay _, Vis.stay _, Vis.stay _, Vis.stay _, VQ.stay _ _, Vis.stay _, Vis.stay _, Vis.stay _, Vis.stay _, Vq.stay _, Vis.stay _, Vis.stay _, Vis.stay _, Vis.stay _, Vis.stay _, Vis.stay _, Vis.stay _, VQ.stay _ _, Vis.stay _, Vis.stay _, Vq.stay _, VQ.stay _ _, Vis.stay _, Vis.stay _, Vis.stay _, Vis.stay _, Vis.stay _, Vis.stay _, Vis.stay _, Vq.stay _, VQ.stay _ _, Vis.stay _, Vq.stay _, Vis.stay _, VQ.stay _ _, Vis.stay _, Vis.stay _, Vis.stay _, Vis.stay _, Vis.stay _, Vis.stay _, Vis.stay _, Vis.stay _, VU.stay _ _, Vis.stay _, Vis.stay _, Vis.stay _, Vis.stay _, Vis.stay _, Vis.stay _, Vis.stay _, Vis.stay _, Vis.stay _, Vis.stay _, Vis.stay _, Vis.stay _, Vis.stay _, Vis.stay _, Vis.stay _, Vis.stay _, Vis.stay _, Vis.stay _, Vis.stay _, Vis.stay _, Vis.stay _, Vis.stay _, Vis.stay _, Vis.stay _, Vis.stay _, Vq.stay _, Vis.stay _, Vq.stay _, Vis.stay _, VQ.stay _ _, Vis.stay _, Vis.stay _, Vis.stay _, Vis.stay _, Vis.stay _, Vis.stay _, Vq.stay _, Vq.stay _, Vis.stay _, VQ.stay _ _, Vis.stay _, Vis.stay _, Vis.stay _, Vis.stay _, Vis.stay _, Vis.stay _, Vis.stay _, Vis.stay _, Vis.stay _, Vis.stay _, Vis.stay _, Vis.stay _, Vis.stay _, Vis.stay _, fun _ h => by cases h⟩)) ?step ?fin
 case step =>
  obtain ⟨p1, p2, p3, p4, p5, p6, p7, p8, p9, p10, p11⟩ := HP.out
  refine lt_split (n := 116) ?_ ?_
  rotate_left
  ·intro f w' K hS hn hK
   have HN := Lib.hid hn
   have HKK := Lib.hid hK
   have hkp := hS.2
   have hS0 := Lib.hid hS
   clear hn hK hS
   have e111 := (show Vis (Value.bool true) (f 111) w' from HN.out 111 (List.mem_of_elem_eq_true (by kernel_rfl)))
   have e115 := (show Vis (Value.bool true) (f 115) w' from HN.out 115 (List.mem_of_elem_eq_true (by kernel_rfl)))
   refine wpOp_step rfl (fun K' hK' => ?_)
   rw [if_pos (wn0 rfl)]
   have HK := Lib.hid hK'
   clear hK'
   have x158 := (mkL_get (n := 117) (f := f) (t := 158) (i := 111) (by rw [HL]) (by decide)).trans (congrArg some e111)
   have x162 := (mkL_get (n := 117) (f := f) (t := 162) (i := 115) (by rw [HL]) (by decide)).trans (congrArg some e115)
   have E111 := Lib.hid e111
   clear e111
   have E115 := Lib.hid e115
   clear e115
   go_simp
   refine fin_step HK.out (mkL_put (t := 163) (by rw [HL]) (by decide)) (HKK.out (Value.bool true) w' hS0.out (Kp.refl w') ?_ (fun _ _ _ => trivial))
   show Vis (Value.bool true) (Value.bool true) w'
   exact rfl
  refine lt_split (n := 115) ?_ ?_
  rotate_left
  ·intro f w' K hS hn hK
   have HN := Lib.hid hn
   have HKK := Lib.hid hK
   have hkp := hS.2
   have hS0 := Lib.hid hS
   clear hn hK hS
   have eg := (show Vis (Value.bool true) (f 111) w' from HN.out 111 (List.mem_of_elem_eq_true (by kernel_rfl)))
   have e112 := (show Vis (Value.slice (some ⟨gu, 0, none⟩) 3 3) (f 112) w' from HN.out 112 (List.mem_of_elem_eq_true (by kernel_rfl)))
   have e113 := (show Vis (Value.slice (some ⟨gb, 0, none⟩) 3 3) (f 113) w' from HN.out 113 (List.mem_of_elem_eq_true (by kernel_rfl)))
   have e114 := (show Vis (Value.slice (some ⟨gq, 0, none⟩) 3 3) (f 114) w' from HN.out 114 (List.mem_of_elem_eq_true (by kernel_rfl)))
   refine wpOp_step rfl (fun K' hK' => ?_)
   rw [if_pos (wn1 rfl (yd (t := 158) rfl (by rw [HL]) (by decide) eg))]
   have HK := Lib.hid hK'
   clear hK' eg
   have x159 := (mkL_get (n := 117) (f := f) (t := 159) (i := 112) (by rw [HL]) (by decide)).trans (congrArg some e112)
   have x160 := (mkL_get (n := 117) (f := f) (t := 160) (i := 113) (by rw [HL]) (by decide)).trans (congrArg some e113)
   have x161 := (mkL_get (n := 117) (f := f) (t := 161) (i := 114) (by rw [HL]) (by decide)).trans (congrArg some e114)
   have E112 := Lib.hid e112
   clear e112
   have E113 := Lib.hid e113
   clear e113
   have E114 := Lib.hid e114
   clear e114
   go_simp
   refine (refused_yes _ _ _ 3 _ 3 _ 3 _ exU30 exB30 exQ30 _ _ _ (HU.out.1.below hkp) (HU.out.2.1.below hkp) (HU.out.2.2.1.below hkp) (by decide) (by decide) (by decide) rx9 (by decide)).mono ?_
   rintro e v1 ⟨rfl, hbx⟩
   (try (go_wp2_with fail))
   refine fin_step HK.out (mkL_put (t := 162) (by rw [HL]) (by decide)) (HKK.out _ v1 (HS.out _ (Kp.trans hkp hbx)) hbx ?_ (fun _ _ _ => trivial))
   show Vis (Value.bool true) _ v1
   exact rfl
  refine lt_split (n := 114) ?_ ?_
  rotate_left
  ·intro f w' K hS hn hK
   have HN := Lib.hid hn
   have HKK := Lib.hid hK
   have hkp := hS.2
   have hS0 := Lib.hid hS
   clear hn hK hS
   have eg := (show Vis (Value.bool true) (f 111) w' from HN.out 111 (List.mem_of_elem_eq_true (by kernel_rfl)))
   refine wpOp_step rfl (fun K' hK' => ?_)
   rw [if_pos (wn1 rfl (yd (t := 158) rfl (by rw [HL]) (by decide) eg))]
   have HK := Lib.hid hK'
   clear hK' eg
   have x3 := (mkL_fix (n := 117) (f := f) p3)
   go_simp
   refine fin_step HK.out (mkL_put (t := 161) (by rw [HL]) (by decide)) (HKK.out (Value.slice (some ⟨gq, 0, none⟩) 3 3) w' hS0.out (Kp.refl w') ?_ (fun _ _ _ => trivial))
   show Vis (Value.slice (some ⟨gq, 0, none⟩) 3 3) (Value.slice (some ⟨gq, 0, none⟩) 3 3) w'
   exact rfl
  refine lt_split (n := 113) ?_ ?_
  rotate_left
  ·intro f w' K hS hn hK
   have HN := Lib.hid hn
   have HKK := Lib.hid hK
   have hkp := hS.2
   have hS0 := Lib.hid hS
   clear hn hK hS
   have eg := (show Vis (Value.bool true) (f 111) w' from HN.out 111 (List.mem_of_elem_eq_true (by kernel_rfl)))
   refine wpOp_step rfl (fun K' hK' => ?_)
   rw [if_pos (wn1 rfl (yd (t := 158) rfl (by rw [HL]) (by decide) eg))]
   have HK := Lib.hid hK'
   clear hK' eg
   have x2 := (mkL_fix (n := 117) (f := f) p2)
   go_simp
   refine fin_step HK.out (mkL_put (t := 160) (by rw [HL]) (by decide)) (HKK.out (Value.slice (some ⟨gb, 0, none⟩) 3 3) w' hS0.out (Kp.refl w') ?_ (fun _ _ _ => trivial))
   show Vis (Value.slice (some ⟨gb, 0, none⟩) 3 3) (Value.slice (some ⟨gb, 0, none⟩) 3 3) w'
   exact rfl
  refine lt_split (n := 112) ?_ ?_
  rotate_left
  ·intro f w' K hS hn hK
   have HN := Lib.hid hn
   have HKK := Lib.hid hK
   have hkp := hS.2
   have hS0 := Lib.hid hS
   clear hn hK hS
   have eg := (show Vis (Value.bool true) (f 111) w' from HN.out 111 (List.mem_of_elem_eq_true (by kernel_rfl)))
   refine wpOp_step rfl (fun K' hK' => ?_)
   rw [if_pos (wn1 rfl (yd (t := 158) rfl (by rw [HL]) (by decide) eg))]
   have HK := Lib.hid hK'
   clear hK' eg
   have x1 := (mkL_fix (n := 117) (f := f) p1)
   go_simp
   refine fin_step HK.out (mkL_put (t := 159) (by rw [HL]) (by decide)) (HKK.out (Value.slice (some ⟨gu, 0, none⟩) 3 3) w' hS0.out (Kp.refl w') ?_ (fun _ _ _ => trivial))
   show Vis (Value.slice (some ⟨gu, 0, none⟩) 3 3) (Value.slice (some ⟨gu, 0, none⟩) 3 3) w'
   exact rfl
  refine lt_split (n := 111) ?_ ?_
  rotate_left
  ·intro f w' K hS hn hK
   have HN := Lib.hid hn
   have HKK := Lib.hid hK
   have hkp := hS.2
   have hS0 := Lib.hid hS
   clear hn hK hS
   have e110 := (show Vis (Value.bool true) (f 110) w' from HN.out 110 (List.mem_of_elem_eq_true (by kernel_rfl)))
   refine wpOp_step rfl (fun K' hK' => ?_)
   rw [if_pos (wn0 rfl)]
   have HK := Lib.hid hK'
   clear hK'
   have x157 := (mkL_get (n := 117) (f := f) (t := 157) (i := 110) (by rw [HL]) (by decide)).trans (congrArg some e110)
   have E110 := Lib.hid e110
   clear e110
   go_simp
   refine fin_step HK.out (mkL_put (t := 158) (by rw [HL]) (by decide)) (HKK.out (Value.bool true) w' hS0.out (Kp.refl w') ?_ (fun _ _ _ => trivial))
   show Vis (Value.bool true) (Value.bool true) w'
   exact rfl
  refine lt_split (n := 110) ?_ ?_
  rotate_left
  ·intro f w' K hS hn hK
   have HN := Lib.hid hn
   have HKK := Lib.hid hK
   have hkp := hS.2
   have hS0 := Lib.hid hS
   clear hn hK hS
   have e105 := (show Vis (Value.bool true) (f 105) w' from HN.out 105 (List.mem_of_elem_eq_true (by kernel_rfl)))
   have e109 := (show Vis (Value.bool true) (f 109) w' from HN.out 109 (List.mem_of_elem_eq_true (by kernel_rfl)))
   refine wpOp_step rfl (fun K' hK' => ?_)
   rw [if_pos (wn0 rfl)]
   have HK := Lib.hid hK'
   clear hK'
   have x152 := (mkL_get (n := 117) (f := f) (t := 152) (i := 105) (by rw [HL]) (by decide)).trans (congrArg some e105)
   have x156 := (mkL_get (n := 117) (f := f) (t := 156) (i := 109) (by rw [HL]) (by decide)).trans (congrArg some e109)
   have E105 := Lib.hid e105
   clear e105
   have E109 := Lib.hid e109
   clear e109
   go_simp
   refine fin_step HK.out (mkL_put (t := 157) (by rw [HL]) (by decide)) (HKK.out (Value.bool true) w' hS0.out (Kp.refl w') ?_ (fun _ _ _ => trivial))
   show Vis (Value.bool true) (Value.bool true) w'
   exact rfl
  refine lt_split (n := 109) ?_ ?_
  rotate_left
  ·intro f w' K hS hn hK
   have HN := Lib.hid hn
   have HKK := Lib.hid hK
   have hkp := hS.2
   have hS0 := Lib.hid hS
   clear hn hK hS
   have eg := (show Vis (Value.bool true) (f 105) w' from HN.out 105 (List.mem_of_elem_eq_true (by kernel_rfl)))
   have e106 := (show Vis (Value.slice (some ⟨gu, 0, none⟩) 3 3) (f 106) w' from HN.out 106 (List.mem_of_elem_eq_true (by kernel_rfl)))
   have e107 := (show Vis (Value.slice (some ⟨gb, 0, none⟩) 3 3) (f 107) w' from HN.out 107 (List.mem_of_elem_eq_true (by kernel_rfl)))
   have e108 := (show Vis (Value.slice (some ⟨gq, 0, none⟩) 3 3) (f 108) w' from HN.out 108 (List.mem_of_elem_eq_true (by kernel_rfl)))
   refine wpOp_step rfl (fun K' hK' => ?_)
   rw [if_pos (wn1 rfl (yd (t := 152) rfl (by rw [HL]) (by decide) eg))]
   have HK := Lib.hid hK'
   clear hK' eg
   have x153 := (mkL_get (n := 117) (f := f) (t := 153) (i := 106) (by rw [HL]) (by decide)).trans (congrArg some e106)
   have x154 := (mkL_get (n := 117) (f := f) (t := 154) (i := 107) (by rw [HL]) (by decide)).trans (congrArg some e107)
   have x155 := (mkL_get (n := 117) (f := f) (t := 155) (i := 108) (by rw [HL]) (by decide)).trans (congrArg some e108)
   have E106 := Lib.hid e106
   clear e106
   have E107 := Lib.hid e107
   clear e107
   have E108 := Lib.hid e108
   clear e108
   go_simp
   refine (refused_yes _ _ _ 3 _ 3 _ 3 _ exU30 exB30 exQ30 _ _ _ (HU.out.1.below hkp) (HU.out.2.1.below hkp) (HU.out.2.2.1.below hkp) (by decide) (by decide) (by decide) rx8 (by decide)).mono ?_
   rintro e v1 ⟨rfl, hbx⟩
   (try (go_wp2_with fail))
   refine fin_step HK.out (mkL_put (t := 156) (by rw [HL]) (by decide)) (HKK.out _ v1 (HS.out _ (Kp.trans hkp hbx)) hbx ?_ (fun _ _ _ => trivial))
   show Vis (Value.bool true) _ v1
   exact rfl
  refine lt_split (n := 108) ?_ ?_
  rotate_left
  ·intro f w' K hS hn hK
   have HN := Lib.hid hn
   have HKK := Lib.hid hK
   have hkp := hS.2
   have hS0 := Lib.hid hS
   clear hn hK hS
   have eg := (show Vis (Value.bool true) (f 105) w' from HN.out 105 (List.mem_of_elem_eq_true (by kernel_rfl)))
   refine wpOp_step rfl (fun K' hK' => ?_)
   rw [if_pos (wn1 rfl (yd (t := 152) rfl (by rw [HL]) (by decide) eg))]
   have HK := Lib.hid hK'
   clear hK' eg
   have x3 := (mkL_fix (n := 117) (f := f) p3)
   go_simp
   refine fin_step HK.out (mkL_put (t := 155) (by rw [HL]) (by decide)) (HKK.out (Value.slice (some ⟨gq, 0, none⟩) 3 3) w' hS0.out (Kp.refl w') ?_ (fun _ _ _ => trivial))
   show Vis (Value.slice (some ⟨gq, 0, none⟩) 3 3) (Value.slice (some ⟨gq, 0, none⟩) 3 3) w'
   exact rfl
  refine lt_split (n := 107) ?_ ?_
  rotate_left
  ·intro f w' K hS hn hK
   have HN := Lib.hid hn
   have HKK := Lib.hid hK
   have hkp := hS.2
   have hS0 := Lib.hid hS
   clear hn hK hS
   have eg := (show Vis (Value.bool true) (f 105) w' from HN.out 105 (List.mem_of_elem_eq_true (by kernel_rfl)))
   refine wpOp_step rfl (fun K' hK' => ?_)
   rw [if_pos (wn1 rfl (yd (t := 152) rfl (by rw [HL]) (by decide) eg))]
   have HK := Lib.hid hK'
   clear hK' eg
   have x2 := (mkL_fix (n := 117) (f := f) p2)
   go_simp
   refine fin_step HK.out (mkL_put (t := 154) (by rw [HL]) (by decide)) (HKK.out (Value.slice (some ⟨gb, 0, none⟩) 3 3) w' hS0.out (Kp.refl w') ?_ (fun _ _ _ => trivial))
   show Vis (Value.slice (some ⟨gb, 0, none⟩) 3 3) (Value.slice (some ⟨gb, 0, none⟩) 3 3) w'
   exact rfl
  refine lt_split (n := 106) ?_ ?_
  rotate_left
  ·intro f w' K hS hn hK
   have HN := Lib.hid hn
   have HKK := Lib.hid hK
   have hkp := hS.2
   have hS0 := Lib.hid hS
   clear hn hK hS
   have eg := (show Vis (Value.bool true) (f 105) w' from HN.out 105 (List.mem_of_elem_eq_true (by kernel_rfl)))
   refine wpOp_step rfl (fun K' hK' => ?_)
   rw [if_pos (wn1 rfl (yd (t := 152) rfl (by rw [HL]) (by decide) eg))]
   have HK := Lib.hid hK'
   clear hK' eg
   have x1 := (mkL_fix (n := 117) (f := f) p1)
   go_simp
   refine fin_step HK.out (mkL_put (t := 153) (by rw [HL]) (by decide)) (HKK.out (Value.slice (some ⟨gu, 0, none⟩) 3 3) w' hS0.out (Kp.refl w') ?_ (fun _ _ _ => trivial))
   show Vis (Value.slice (some ⟨gu, 0, none⟩) 3 3) (Value.slice (some ⟨gu, 0, none⟩) 3 3) w'
   exact rfl
  refine lt_split (n := 105) ?_ ?_
  rotate_left
  ·intro f w' K hS hn hK
   have HN := Lib.hid hn
   have HKK := Lib.hid hK
   have hkp := hS.2
   have hS0 := Lib.hid hS
   clear hn hK hS
   have e104 := (show Vis (Value.bool true) (f 104) w' from HN.out 104 (List.mem_of_elem_eq_true (by kernel_rfl)))
   refine wpOp_step rfl (fun K' hK' => ?_)
   rw [if_pos (wn0 rfl)]
   have HK := Lib.hid hK'
   clear hK'
   have x151 := (mkL_get (n := 117) (f := f) (t := 151) (i := 104) (by rw [HL]) (by decide)).trans (congrArg some e104)
   have E104 := Lib.hid e104
   clear e104
   go_simp
   refine fin_step HK.out (mkL_put (t := 152) (by rw [HL]) (by decide)) (HKK.out (Value.bool true) w' hS0.out (Kp.refl w') ?_ (fun _ _ _ => trivial))
   show Vis (Value.bool true) (Value.bool true) w'
   exact rfl
  refine lt_split (n := 104) ?_ ?_
  rotate_left
  ·intro f w' K hS hn hK
   have HN := Lib.hid hn
   have HKK := Lib.hid hK
   have hkp := hS.2
   have hS0 := Lib.hid hS
   clear hn hK hS
   have e95 := (show Vis (Value.bool true) (f 95) w' from HN.out 95 (List.mem_of_elem_eq_true (by kernel_rfl)))
   have e103 := (show Vis (Value.bool true) (f 103) w' from HN.out 103 (List.mem_of_elem_eq_true (by kernel_rfl)))
   refine wpOp_step rfl (fun K' hK' => ?_)
   rw [if_pos (wn0 rfl)]
   have HK := Lib.hid hK'
   clear hK'
   have x142 := (mkL_get (n := 117) (f := f) (t := 142) (i := 95) (by rw [HL]) (by decide)).trans (congrArg some e95)
   have x150 := (mkL_get (n := 117) (f := f) (t := 150) (i := 103) (by rw [HL]) (by decide)).trans (congrArg some e103)
   have E95 := Lib.hid e95
   clear e95
   have E103 := Lib.hid e103
   clear e103
   go_simp
   refine fin_step HK.out (mkL_put (t := 151) (by rw [HL]) (by decide)) (HKK.out (Value.bool true) w' hS0.out (Kp.refl w') ?_ (fun _ _ _ => trivial))
   show Vis (Value.bool true) (Value.bool true) w'
   exact rfl
  refine lt_split (n := 103) ?_ ?_
  rotate_left
  ·intro f w' K hS hn hK
   have HN := Lib.hid hn
   have HKK := Lib.hid hK
   have hkp := hS.2
   have hS0 := Lib.hid hS
   clear hn hK hS
   have eg := (show Vis (Value.bool true) (f 95) w' from HN.out 95 (List.mem_of_elem_eq_true (by kernel_rfl)))
   have e96 := (show Vis (Value.slice (some ⟨gu, 0, none⟩) 3 3) (f 96) w' from HN.out 96 (List.mem_of_elem_eq_true (by kernel_rfl)))
   have e97 := (show Vis (Value.slice (some ⟨gb, 0, none⟩) 3 3) (f 97) w' from HN.out 97 (List.mem_of_elem_eq_true (by kernel_rfl)))
   obtain ⟨g102, e102, r102⟩ := (show VQ 3 [ι (5), y13, 0] (f 102) w' from HN.out 102 (List.mem_of_elem_eq_true (by kernel_rfl)))
   refine wpOp_step rfl (fun K' hK' => ?_)
   rw [if_pos (wn1 rfl (yd (t := 142) rfl (by rw [HL]) (by decide) eg))]
   have HK := Lib.hid hK'
   clear hK' eg
   have x143 := (mkL_get (n := 117) (f := f) (t := 143) (i := 96) (by rw [HL]) (by decide)).trans (congrArg some e96)
   have x144 := (mkL_get (n := 117) (f := f) (t := 144) (i := 97) (by rw [HL]) (by decide)).trans (congrArg some e97)
   have x149 := (mkL_get (n := 117) (f := f) (t := 149) (i := 102) (by rw [HL]) (by decide)).trans (congrArg some e102)
   have E96 := Lib.hid e96
   clear e96
   have E97 := Lib.hid e97
   clear e97
   have E102 := Lib.hid e102
   clear e102
   go_simp
   refine (refused_yes _ _ _ 3 _ 3 _ 3 _ exU30 exB30 exQ2 _ _ _ (HU.out.1.below hkp) (HU.out.2.1.below hkp) (gs_q2 HI.out HY13.out r102) (by decide) (by decide) (by decide) rx7 (by decide)).mono ?_
   rintro e v1 ⟨rfl, hbx⟩
   (try (go_wp2_with fail))
   refine fin_step HK.out (mkL_put (t := 150) (by rw [HL]) (by decide)) (HKK.out _ v1 (HS.out _ (Kp.trans hkp hbx)) hbx ?_ (fun _ _ _ => trivial))
   show Vis (Value.bool true) _ v1
   exact rfl
  refine lt_split (n := 102) ?_ ?_
  rotate_left
  ·intro f w' K hS hn hK
   have HN := Lib.hid hn
   have HKK := Lib.hid hK
   have hkp := hS.2
   have hS0 := Lib.hid hS
   clear hn hK hS
   have eg := (show Vis (Value.bool true) (f 95) w' from HN.out 95 (List.mem_of_elem_eq_true (by kernel_rfl)))
   obtain ⟨A99, k99, c99, B99, l99, d99, e99, r99⟩ := (show Vq (ι (5)) (f 99) w' from HN.out 99 (List.mem_of_elem_eq_true (by kernel_rfl)))
   obtain ⟨A100, k100, c100, B100, l100, d100, e100, r100⟩ := (show Vq (y13) (f 100) w' from HN.out 100 (List.mem_of_elem_eq_true (by kernel_rfl)))
   have e101 := (show Vis (Value.agg #[Value.bool false, Value.slice none 0 0, Value.bool false, Value.slice none 0 0]) (f 101) w' from HN.out 101 (List.mem_of_elem_eq_true (by kernel_rfl)))
   refine wpOp_step rfl (fun K' hK' => ?_)
   rw [if_pos (wn1 rfl (yd (t := 142) rfl (by rw [HL]) (by decide) eg))]
   have HK := Lib.hid hK'
   clear hK' eg
   have x146 := (mkL_get (n := 117) (f := f) (t := 146) (i := 99) (by rw [HL]) (by decide)).trans (congrArg some e99)
   have x147 := (mkL_get (n := 117) (f := f) (t := 147) (i := 100) (by rw [HL]) (by decide)).trans (congrArg some e100)
   have x148 := (mkL_get (n := 117) (f := f) (t := 148) (i := 101) (by rw [HL]) (by decide)).trans (congrArg some e101)
   have E99 := Lib.hid e99
   clear e99
   have E100 := Lib.hid e100
   clear e100
   have E101 := Lib.hid e101
   clear e101
   go_simp
   have ka := (Kp.refl w').alloc (.cells #[.bool (decide ((ι (5)).num < 0)), .slice A99 k99 c99, .bool false, .slice B99 l99 d99, .bool (decide ((y13).num < 0)), .slice A100 k100 c100, .bool false, .slice B100 l100 d100, .bool false, .slice none 0 0, .bool false, .slice none 0 0] 31)
   refine fin_step HK.out (mkL_put (t := 149) (by rw [HL]) (by decide)) (HKK.out _ _ (HS.out _ (Kp.trans hkp ka)) ka ?_ (fun _ _ _ => trivial))
   show VQ 3 [ι (5), y13, 0] _ _
   exact ⟨_, rfl, (QsAt.lit3 (Blk.new _ _ _) (r99.below ka) (r100.below ka) (rq_zero _) rfl rfl rfl)⟩
  refine lt_split (n := 101) ?_ ?_
  rotate_left
  ·intro f w' K hS hn hK
   have HN := Lib.hid hn
   have HKK := Lib.hid hK
   have hkp := hS.2
   have hS0 := Lib.hid hS
   clear hn hK hS
   have eg := (show Vis (Value.bool true) (f 95) w' from HN.out 95 (List.mem_of_elem_eq_true (by kernel_rfl)))
   refine wpOp_step rfl (fun K' hK' => ?_)
   rw [if_pos (wn1 rfl (yd (t := 142) rfl (by rw [HL]) (by decide) eg))]
   have HK := Lib.hid hK'
   clear hK' eg
   have x5 := (mkL_fix (n := 117) (f := f) p5)
   obtain ⟨⟨a0, a1, a2, a3, a4, a5, a6, a7, a8, a9, a10, a11, a12, a13, a14, a15, a16⟩, -⟩ := hS0.out
   go_simp
   refine fin_step HK.out (mkL_put (t := 148) (by rw [HL]) (by decide)) (HKK.out (Value.agg #[Value.bool false, Value.slice none 0 0, Value.bool false, Value.slice none 0 0]) w' hS0.out (Kp.refl w') ?_ (fun _ _ _ => trivial))
   show Vis (Value.agg #[Value.bool false, Value.slice none 0 0, Value.bool false, Value.slice none 0 0]) (Value.agg #[Value.bool false, Value.slice none 0 0, Value.bool false, Value.slice none 0 0]) w'
   exact rfl
  refine lt_split (n := 100) ?_ ?_
  rotate_left
  ·intro f w' K hS hn hK
   have HN := Lib.hid hn
   have HKK := Lib.hid hK
   have hkp := hS.2
   have hS0 := Lib.hid hS
   clear hn hK hS
   have eg := (show Vis (Value.bool true) (f 95) w' from HN.out 95 (List.mem_of_elem_eq_true (by kernel_rfl)))
   refine wpOp_step rfl (fun K' hK' => ?_)
   rw [if_pos (wn1 rfl (yd (t := 142) rfl (by rw [HL]) (by decide) eg))]
   have HK := Lib.hid hK'
   clear hK' eg
   go_simp
   refine (TO13.out _).mono ?_
   rintro e v1 ⟨A1, k1, c1, B1, j1, d1, rfl, hk9, hj9, hW9, hX9, -, -, hbx⟩
   (try (go_wp2_with fail))
   refine fin_step HK.out (mkL_put (t := 147) (by rw [HL]) (by decide)) (HKK.out _ v1 (HS.out _ (Kp.trans hkp hbx)) hbx ?_ (fun _ _ _ => trivial))
   show Vq (y13) _ _
   exact ⟨A1, k1, c1, B1, j1, d1, rfl, hk9, hj9, hW9, hX9⟩
  refine lt_split (n := 99) ?_ ?_
  rotate_left
  ·intro f w' K hS hn hK
   have HN := Lib.hid hn
   have HKK := Lib.hid hK
   have hkp := hS.2
   have hS0 := Lib.hid hS
   clear hn hK hS
   have eg := (show Vis (Value.bool true) (f 95) w' from HN.out 95 (List.mem_of_elem_eq_true (by kernel_rfl)))
   have e98 := (show Vis (Value.func (Fn.func 20) #[] #[]) (f 98) w' from HN.out 98 (List.mem_of_elem_eq_true (by kernel_rfl)))
   refine wpOp_step rfl (fun K' hK' => ?_)
   rw [if_pos (wn1 rfl (yd (t := 142) rfl (by rw [HL]) (by decide) eg))]
   have HK := Lib.hid hK'
   clear hK' eg
   have x145 := (mkL_get (n := 117) (f := f) (t := 145) (i := 98) (by rw [HL]) (by decide)).trans (congrArg some e98)
   have E98 := Lib.hid e98
   clear e98
   go_simp
   refine (TW.out (5) (by decide) _).mono ?_
   rintro e v1 ⟨A1, k1, c1, B1, j1, d1, rfl, hk9, hj9, hW9, hX9, -, -, hbx⟩
   (try (go_wp2_with fail))
   refine fin_step HK.out (mkL_put (t := 146) (by rw [HL]) (by decide)) (HKK.out _ v1 (HS.out _ (Kp.trans hkp hbx)) hbx ?_ (fun _ _ _ => trivial))
   show Vq (ι (5)) _ _
   exact ⟨A1, k1, c1, B1, j1, d1, rfl, hk9, hj9, hW9, hX9⟩
  refine lt_split (n := 98) ?_ ?_
  rotate_left
  ·intro f w' K hS hn hK
   have HN := Lib.hid hn
   have HKK := Lib.hid hK
   have hkp := hS.2
   have hS0 := Lib.hid hS
   clear hn hK hS
   have eg := (show Vis (Value.bool true) (f 95) w' from HN.out 95 (List.mem_of_elem_eq_true (by kernel_rfl)))
   refine wpOp_step rfl (fun K' hK' => ?_)
   rw [if_pos (wn1 rfl (yd (t := 142) rfl (by rw [HL]) (by decide) eg))]
   have HK := Lib.hid hK'
   clear hK' eg
   have x4 := (mkL_fix (n := 117) (f := f) p4)
   go_simp
   refine fin_step HK.out (mkL_put (t := 145) (by rw [HL]) (by decide)) (HKK.out (Value.func (Fn.func 20) #[] #[]) w' hS0.out (Kp.refl w') ?_ (fun _ _ _ => trivial))
   show Vis (Value.func (Fn.func 20) #[] #[]) (Value.func (Fn.func 20) #[] #[]) w'
   exact rfl
  refine lt_split (n := 97) ?_ ?_
  rotate_left
  ·intro f w' K hS hn hK
   have HN := Lib.hid hn
   have HKK := Lib.hid hK
   have hkp := hS.2
   have hS0 := Lib.hid hS
   clear hn hK hS
   have eg := (show Vis (Value.bool true) (f 95) w' from HN.out 95 (List.mem_of_elem_eq_true (by kernel_rfl)))
   refine wpOp_step rfl (fun K' hK' => ?_)
   rw [if_pos (wn1 rfl (yd (t := 142) rfl (by rw [HL]) (by decide) eg))]
   have HK := Lib.hid hK'
   clear hK' eg
   have x2 := (mkL_fix (n := 117) (f := f) p2)
   go_simp
   refine fin_step HK.out (mkL_put (t := 144) (by rw [HL]) (by decide)) (HKK.out (Value.slice (some ⟨gb, 0, none⟩) 3 3) w' hS0.out (Kp.refl w') ?_ (fun _ _ _ => trivial))
   show Vis (Value.slice (some ⟨gb, 0, none⟩) 3 3) (Value.slice (some ⟨gb, 0, none⟩) 3 3) w'
   exact rfl
  refine lt_split (n := 96) ?_ ?_
  rotate_left
  ·intro f w' K hS hn hK
   have HN := Lib.hid hn
   have HKK := Lib.hid hK
   have hkp := hS.2
   have hS0 := Lib.hid hS
   clear hn hK hS
   have eg := (show Vis (Value.bool true) (f 95) w' from HN.out 95 (List.mem_of_elem_eq_true (by kernel_rfl)))
   refine wpOp_step rfl (fun K' hK' => ?_)
   rw [if_pos (wn1 rfl (yd (t := 142) rfl (by rw [HL]) (by decide) eg))]
   have HK := Lib.hid hK'
   clear hK' eg
   have x1 := (mkL_fix (n := 117) (f := f) p1)
   go_simp
   refine fin_step HK.out (mkL_put (t := 143) (by rw [HL]) (by decide)) (HKK.out (Value.slice (some ⟨gu, 0, none⟩) 3 3) w' hS0.out (Kp.refl w') ?_ (fun _ _ _ => trivial))
   show Vis (Value.slice (some ⟨gu, 0, none⟩) 3 3) (Value.slice (some ⟨gu, 0, none⟩) 3 3) w'
   exact rfl
  refine lt_split (n := 95) ?_ ?_
  rotate_left
  ·intro f w' K hS hn hK
   have HN := Lib.hid hn
   have HKK := Lib.hid hK
   have hkp := hS.2
   have hS0 := Lib.hid hS
   clear hn hK hS
   have e94 := (show Vis (Value.bool true) (f 94) w' from HN.out 94 (List.mem_of_elem_eq_true (by kernel_rfl)))
   refine wpOp_step rfl (fun K' hK' => ?_)
   rw [if_pos (wn0 rfl)]
   have HK := Lib.hid hK'
   clear hK'
   have x141 := (mkL_get (n := 117) (f := f) (t := 141) (i := 94) (by rw [HL]) (by decide)).trans (congrArg some e94)
   have E94 := Lib.hid e94
   clear e94
   go_simp
   refine fin_step HK.out (mkL_put (t := 142) (by rw [HL]) (by decide)) (HKK.out (Value.bool true) w' hS0.out (Kp.refl w') ?_ (fun _ _ _ => trivial))
   show Vis (Value.bool true) (Value.bool true) w'
   exact rfl
  refine lt_split (n := 94) ?_ ?_
  rotate_left
  ·intro f w' K hS hn hK
   have HN := Lib.hid hn
   have HKK := Lib.hid hK
   have hkp := hS.2
   have hS0 := Lib.hid hS
   clear hn hK hS
   have e84 := (show Vis (Value.bool true) (f 84) w' from HN.out 84 (List.mem_of_elem_eq_true (by kernel_rfl)))
   have e93 := (show Vis (Value.bool true) (f 93) w' from HN.out 93 (List.mem_of_elem_eq_true (by kernel_rfl)))
   refine wpOp_step rfl (fun K' hK' => ?_)
   rw [if_pos (wn0 rfl)]
   have HK := Lib.hid hK'
   clear hK'
   have x131 := (mkL_get (n := 117) (f := f) (t := 131) (i := 84) (by rw [HL]) (by decide)).trans (congrArg some e84)
   have x140 := (mkL_get (n := 117) (f := f) (t := 140) (i := 93) (by rw [HL]) (by decide)).trans (congrArg some e93)
   have E84 := Lib.hid e84
   clear e84
   have E93 := Lib.hid e93
   clear e93
   go_simp
   refine fin_step HK.out (mkL_put (t := 141) (by rw [HL]) (by decide)) (HKK.out (Value.bool true) w' hS0.out (Kp.refl w') ?_ (fun _ _ _ => trivial))
   show Vis (Value.bool true) (Value.bool true) w'
   exact rfl
  refine lt_split (n := 93) ?_ ?_
  rotate_left
  ·intro f w' K hS hn hK
   have HN := Lib.hid hn
   have HKK := Lib.hid hK
   have hkp := hS.2
   have hS0 := Lib.hid hS
   clear hn hK hS
   have eg := (show Vis (Value.bool true) (f 84) w' from HN.out 84 (List.mem_of_elem_eq_true (by kernel_rfl)))
   have e85 := (show Vis (Value.slice (some ⟨gu, 0, none⟩) 3 3) (f 85) w' from HN.out 85 (List.mem_of_elem_eq_true (by kernel_rfl)))
   have e86 := (show Vis (Value.slice (some ⟨gb, 0, none⟩) 3 3) (f 86) w' from HN.out 86 (List.mem_of_elem_eq_true (by kernel_rfl)))
   obtain ⟨g92, e92, r92⟩ := (show VQ 3 [ι (5), ι (-1), 0] (f 92) w' from HN.out 92 (List.mem_of_elem_eq_true (by kernel_rfl)))
   refine wpOp_step rfl (fun K' hK' => ?_)
   rw [if_pos (wn1 rfl (yd (t := 131) rfl (by rw [HL]) (by decide) eg))]
   have HK := Lib.hid hK'
   clear hK' eg
   have x132 := (mkL_get (n := 117) (f := f) (t := 132) (i := 85) (by rw [HL]) (by decide)).trans (congrArg some e85)
   have x133 := (mkL_get (n := 117) (f := f) (t := 133) (i := 86) (by rw [HL]) (by decide)).trans (congrArg some e86)
   have x139 := (mkL_get (n := 117) (f := f) (t := 139) (i := 92) (by rw [HL]) (by decide)).trans (congrArg some e92)
   have E85 := Lib.hid e85
   clear e85
   have E86 := Lib.hid e86
   clear e86
   have E92 := Lib.hid e92
   clear e92
   go_simp
   refine (refused_yes _ _ _ 3 _ 3 _ 3 _ exU30 exB30 exQ1 _ _ _ (HU.out.1.below hkp) (HU.out.2.1.below hkp) (gs_q1 HI.out r92) (by decide) (by decide) (by decide) rx6 (by decide)).mono ?_
   rintro e v1 ⟨rfl, hbx⟩
   (try (go_wp2_with fail))
   refine fin_step HK.out (mkL_put (t := 140) (by rw [HL]) (by decide)) (HKK.out _ v1 (HS.out _ (Kp.trans hkp hbx)) hbx ?_ (fun _ _ _ => trivial))
   show Vis (Value.bool true) _ v1
   exact rfl
  refine lt_split (n := 92) ?_ ?_
  rotate_left
  ·intro f w' K hS hn hK
   have HN := Lib.hid hn
   have HKK := Lib.hid hK
   have hkp := hS.2
   have hS0 := Lib.hid hS
   clear hn hK hS
   have eg := (show Vis (Value.bool true) (f 84) w' from HN.out 84 (List.mem_of_elem_eq_true (by kernel_rfl)))
   obtain ⟨A88, k88, c88, B88, l88, d88, e88, r88⟩ := (show Vq (ι (5)) (f 88) w' from HN.out 88 (List.mem_of_elem_eq_true (by kernel_rfl)))
   obtain ⟨A90, k90, c90, B90, l90, d90, e90, r90⟩ := (show Vq (ι (-1)) (f 90) w' from HN.out 90 (List.mem_of_elem_eq_true (by kernel_rfl)))
   have e91 := (show Vis (Value.agg #[Value.bool false, Value.slice none 0 0, Value.bool false, Value.slice none 0 0]) (f 91) w' from HN.out 91 (List.mem_of_elem_eq_true (by kernel_rfl)))
   refine wpOp_step rfl (fun K' hK' => ?_)
   rw [if_pos (wn1 rfl (yd (t := 131) rfl (by rw [HL]) (by decide) eg))]
   have HK := Lib.hid hK'
   clear hK' eg
   have x135 := (mkL_get (n := 117) (f := f) (t := 135) (i := 88) (by rw [HL]) (by decide)).trans (congrArg some e88)
   have x137 := (mkL_get (n := 117) (f := f) (t := 137) (i := 90) (by rw [HL]) (by decide)).trans (congrArg some e90)
   have x138 := (mkL_get (n := 117) (f := f) (t := 138) (i := 91) (by rw [HL]) (by decide)).trans (congrArg some e91)
   have E88 := Lib.hid e88
   clear e88
   have E90 := Lib.hid e90
   clear e90
   have E91 := Lib.hid e91
   clear e91
   go_simp
   have ka := (Kp.refl w').alloc (.cells #[.bool (decide ((ι (5)).num < 0)), .slice A88 k88 c88, .bool false, .slice B88 l88 d88, .bool (decide ((ι (-1)).num < 0)), .slice A90 k90 c90, .bool false, .slice B90 l90 d90, .bool false, .slice none 0 0, .bool false, .slice none 0 0] 31)
   refine fin_step HK.out (mkL_put (t := 139) (by rw [HL]) (by decide)) (HKK.out _ _ (HS.out _ (Kp.trans hkp ka)) ka ?_ (fun _ _ _ => trivial))
   show VQ 3 [ι (5), ι (-1), 0] _ _
   exact ⟨_, rfl, (QsAt.lit3 (Blk.new _ _ _) (r88.below ka) (r90.below ka) (rq_zero _) rfl rfl rfl)⟩
  refine lt_split (n := 91) ?_ ?_
  rotate_left
  ·intro f w' K hS hn hK
   have HN := Lib.hid hn
   have HKK := Lib.hid hK
   have hkp := hS.2
   have hS0 := Lib.hid hS
   clear hn hK hS
   have eg := (show Vis (Value.bool true) (f 84) w' from HN.out 84 (List.mem_of_elem_eq_true (by kernel_rfl)))
   refine wpOp_step rfl (fun K' hK' => ?_)
   rw [if_pos (wn1 rfl (yd (t := 131) rfl (by rw [HL]) (by decide) eg))]
   have HK := Lib.hid hK'
   clear hK' eg
   have x5 := (mkL_fix (n := 117) (f := f) p5)
   obtain ⟨⟨a0, a1, a2, a3, a4, a5, a6, a7, a8, a9, a10, a11, a12, a13, a14, a15, a16⟩, -⟩ := hS0.out
   go_simp
   refine fin_step HK.out (mkL_put (t := 138) (by rw [HL]) (by decide)) (HKK.out (Value.agg #[Value.bool false, Value.slice none 0 0, Value.bool false, Value.slice none 0 0]) w' hS0.out (Kp.refl w') ?_ (fun _ _ _ => trivial))
   show Vis (Value.agg #[Value.bool false, Value.slice none 0 0, Value.bool false, Value.slice none 0 0]) (Value.agg #[Value.bool false, Value.slice none 0 0, Value.bool false, Value.slice none 0 0]) w'
   exact rfl
  refine lt_split (n := 90) ?_ ?_
  rotate_left
  ·intro f w' K hS hn hK
   have HN := Lib.hid hn
   have HKK := Lib.hid hK
   have hkp := hS.2
   have hS0 := Lib.hid hS
   clear hn hK hS
   have eg := (show Vis (Value.bool true) (f 84) w' from HN.out 84 (List.mem_of_elem_eq_true (by kernel_rfl)))
   have e89 := (show Vis (Value.func (Fn.func 20) #[] #[]) (f 89) w' from HN.out 89 (List.mem_of_elem_eq_true (by kernel_rfl)))
   refine wpOp_step rfl (fun K' hK' => ?_)
   rw [if_pos (wn1 rfl (yd (t := 131) rfl (by rw [HL]) (by decide) eg))]
   have HK := Lib.hid hK'
   clear hK' eg
   have x136 := (mkL_get (n := 117) (f := f) (t := 136) (i := 89) (by rw [HL]) (by decide)).trans (congrArg some e89)
   have E89 := Lib.hid e89
   clear e89
   go_simp
   refine (TW.out (-1) (by decide) _).mono ?_
   rintro e v1 ⟨A1, k1, c1, B1, j1, d1, rfl, hk9, hj9, hW9, hX9, -, -, hbx⟩
   (try (go_wp2_with fail))
   refine fin_step HK.out (mkL_put (t := 137) (by rw [HL]) (by decide)) (HKK.out _ v1 (HS.out _ (Kp.trans hkp hbx)) hbx ?_ (fun _ _ _ => trivial))
   show Vq (ι (-1)) _ _
   exact ⟨A1, k1, c1, B1, j1, d1, rfl, hk9, hj9, hW9, hX9⟩
  refine lt_split (n := 89) ?_ ?_
  rotate_left
  ·intro f w' K hS hn hK
   have HN := Lib.hid hn
   have HKK := Lib.hid hK
   have hkp := hS.2
   have hS0 := Lib.hid hS
   clear hn hK hS
   have eg := (show Vis (Value.bool true) (f 84) w' from HN.out 84 (List.mem_of_elem_eq_true (by kernel_rfl)))
   refine wpOp_step rfl (fun K' hK' => ?_)
   rw [if_pos (wn1 rfl (yd (t := 131) rfl (by rw [HL]) (by decide) eg))]
   have HK := Lib.hid hK'
   clear hK' eg
   have x4 := (mkL_fix (n := 117) (f := f) p4)
   go_simp
   refine fin_step HK.out (mkL_put (t := 136) (by rw [HL]) (by decide)) (HKK.out (Value.func (Fn.func 20) #[] #[]) w' hS0.out (Kp.refl w') ?_ (fun _ _ _ => trivial))
   show Vis (Value.func (Fn.func 20) #[] #[]) (Value.func (Fn.func 20) #[] #[]) w'
   exact rfl
  refine lt_split (n := 88) ?_ ?_
  rotate_left
  ·intro f w' K hS hn hK
   have HN := Lib.hid hn
   have HKK := Lib.hid hK
   have hkp := hS.2
   have hS0 := Lib.hid hS
   clear hn hK hS
   have eg := (show Vis (Value.bool true) (f 84) w' from HN.out 84 (List.mem_of_elem_eq_true (by kernel_rfl)))
   have e87 := (show Vis (Value.func (Fn.func 20) #[] #[]) (f 87) w' from HN.out 87 (List.mem_of_elem_eq_true (by kernel_rfl)))
   refine wpOp_step rfl (fun K' hK' => ?_)
   rw [if_pos (wn1 rfl (yd (t := 131) rfl (by rw [HL]) (by decide) eg))]
   have HK := Lib.hid hK'
   clear hK' eg
   have x134 := (mkL_get (n := 117) (f := f) (t := 134) (i := 87) (by rw [HL]) (by decide)).trans (congrArg some e87)
   have E87 := Lib.hid e87
   clear e87
   go_simp
   refine (TW.out (5) (by decide) _).mono ?_
   rintro e v1 ⟨A1, k1, c1, B1, j1, d1, rfl, hk9, hj9, hW9, hX9, -, -, hbx⟩
   (try (go_wp2_with fail))
   refine fin_step HK.out (mkL_put (t := 135) (by rw [HL]) (by decide)) (HKK.out _ v1 (HS.out _ (Kp.trans hkp hbx)) hbx ?_ (fun _ _ _ => trivial))
   show Vq (ι (5)) _ _
   exact ⟨A1, k1, c1, B1, j1, d1, rfl, hk9, hj9, hW9, hX9⟩
  refine lt_split (n := 87) ?_ ?_
  rotate_left
  ·intro f w' K hS hn hK
   have HN := Lib.hid hn
   have HKK := Lib.hid hK
   have hkp := hS.2
   have hS0 := Lib.hid hS
   clear hn hK hS
   have eg := (show Vis (Value.bool true) (f 84) w' from HN.out 84 (List.mem_of_elem_eq_true (by kernel_rfl)))
   refine wpOp_step rfl (fun K' hK' => ?_)
   rw [if_pos (wn1 rfl (yd (t := 131) rfl (by rw [HL]) (by decide) eg))]
   have HK := Lib.hid hK'
   clear hK' eg
   have x4 := (mkL_fix (n := 117) (f := f) p4)
   go_simp
   refine fin_step HK.out (mkL_put (t := 134) (by rw [HL]) (by decide)) (HKK.out (Value.func (Fn.func 20) #[] #[]) w' hS0.out (Kp.refl w') ?_ (fun _ _ _ => trivial))
   show Vis (Value.func (Fn.func 20) #[] #[]) (Value.func (Fn.func 20) #[] #[]) w'
   exact rfl
  refine lt_split (n := 86) ?_ ?_
  rotate_left
  ·intro f w' K hS hn hK
   have HN := Lib.hid hn
   have HKK := Lib.hid hK
   have hkp := hS.2
   have hS0 := Lib.hid hS
   clear hn hK hS
   have eg := (show Vis (Value.bool true) (f 84) w' from HN.out 84 (List.mem_of_elem_eq_true (by kernel_rfl)))
   refine wpOp_step rfl (fun K' hK' => ?_)
   rw [if_pos (wn1 rfl (yd (t := 131) rfl (by rw [HL]) (by decide) eg))]
   have HK := Lib.hid hK'
   clear hK' eg
   have x2 := (mkL_fix (n := 117) (f := f) p2)
   go_simp
   refine fin_step HK.out (mkL_put (t := 133) (by rw [HL]) (by decide)) (HKK.out (Value.slice (some ⟨gb, 0, none⟩) 3 3) w' hS0.out (Kp.refl w') ?_ (fun _ _ _ => trivial))
   show Vis (Value.slice (some ⟨gb, 0, none⟩) 3 3) (Value.slice (some ⟨gb, 0, none⟩) 3 3) w'
   exact rfl
  refine lt_split (n := 85) ?_ ?_
  rotate_left
  ·intro f w' K hS hn hK
   have HN := Lib.hid hn
   have HKK := Lib.hid hK
   have hkp := hS.2
   have hS0 := Lib.hid hS
   clear hn hK hS
   have eg := (show Vis (Value.bool true) (f 84) w' from HN.out 84 (List.mem_of_elem_eq_true (by kernel_rfl)))
   refine wpOp_step rfl (fun K' hK' => ?_)
   rw [if_pos (wn1 rfl (yd (t := 131) rfl (by rw [HL]) (by decide) eg))]
   have HK := Lib.hid hK'
   clear hK' eg
   have x1 := (mkL_fix (n := 117) (f := f) p1)
   go_simp
   refine fin_step HK.out (mkL_put (t := 132) (by rw [HL]) (by decide)) (HKK.out (Value.slice (some ⟨gu, 0, none⟩) 3 3) w' hS0.out (Kp.refl w') ?_ (fun _ _ _ => trivial))
   show Vis (Value.slice (some ⟨gu, 0, none⟩) 3 3) (Value.slice (some ⟨gu, 0, none⟩) 3 3) w'
   exact rfl
  refine lt_split (n := 84) ?_ ?_
  rotate_left
  ·intro f w' K hS hn hK
   have HN := Lib.hid hn
   have HKK := Lib.hid hK
   have hkp := hS.2
   have hS0 := Lib.hid hS
   clear hn hK hS
   have e83 := (show Vis (Value.bool true) (f 83) w' from HN.out 83 (List.mem_of_elem_eq_true (by kernel_rfl)))
   refine wpOp_step rfl (fun K' hK' => ?_)
   rw [if_pos (wn0 rfl)]
   have HK := Lib.hid hK'
   clear hK'
   have x130 := (mkL_get (n := 117) (f := f) (t := 130) (i := 83) (by rw [HL]) (by decide)).trans (congrArg some e83)
   have E83 := Lib.hid e83
   clear e83
   go_simp
   refine fin_step HK.out (mkL_put (t := 131) (by rw [HL]) (by decide)) (HKK.out (Value.bool true) w' hS0.out (Kp.refl w') ?_ (fun _ _ _ => trivial))
   show Vis (Value.bool true) (Value.bool true) w'
   exact rfl
  refine lt_split (n := 83) ?_ ?_
  rotate_left
  ·intro f w' K hS hn hK
   have HN := Lib.hid hn
   have HKK := Lib.hid hK
   have hkp := hS.2
   have hS0 := Lib.hid hS
   clear hn hK hS
   have e78 := (show Vis (Value.bool true) (f 78) w' from HN.out 78 (List.mem_of_elem_eq_true (by kernel_rfl)))
   have e82 := (show Vis (Value.bool true) (f 82) w' from HN.out 82 (List.mem_of_elem_eq_true (by kernel_rfl)))
   refine wpOp_step rfl (fun K' hK' => ?_)
   rw [if_pos (wn0 rfl)]
   have HK := Lib.hid hK'
   clear hK'
   have x125 := (mkL_get (n := 117) (f := f) (t := 125) (i := 78) (by rw [HL]) (by decide)).trans (congrArg some e78)
   have x129 := (mkL_get (n := 117) (f := f) (t := 129) (i := 82) (by rw [HL]) (by decide)).trans (congrArg some e82)
   have E78 := Lib.hid e78
   clear e78
   have E82 := Lib.hid e82
   clear e82
   go_simp
   refine fin_step HK.out (mkL_put (t := 130) (by rw [HL]) (by decide)) (HKK.out (Value.bool true) w' hS0.out (Kp.refl w') ?_ (fun _ _ _ => trivial))
   show Vis (Value.bool true) (Value.bool true) w'
   exact rfl
  refine lt_split (n := 82) ?_ ?_
  rotate_left
  ·intro f w' K hS hn hK
   have HN := Lib.hid hn
   have HKK := Lib.hid hK
   have hkp := hS.2
   have hS0 := Lib.hid hS
   clear hn hK hS
   have eg := (show Vis (Value.bool true) (f 78) w' from HN.out 78 (List.mem_of_elem_eq_true (by kernel_rfl)))
   have e79 := (show Vis (Value.slice (some ⟨gu, 0, none⟩) 3 3) (f 79) w' from HN.out 79 (List.mem_of_elem_eq_true (by kernel_rfl)))
   have e80 := (show Vis (Value.slice (some ⟨go, 0, none⟩) 3 3) (f 80) w' from HN.out 80 (List.mem_of_elem_eq_true (by kernel_rfl)))
   have e81 := (show Vis (Value.slice (some ⟨gq, 0, none⟩) 3 3) (f 81) w' from HN.out 81 (List.mem_of_elem_eq_true (by kernel_rfl)))
   refine wpOp_step rfl (fun K' hK' => ?_)
   rw [if_pos (wn1 rfl (yd (t := 125) rfl (by rw [HL]) (by decide) eg))]
   have HK := Lib.hid hK'
   clear hK' eg
   have x126 := (mkL_get (n := 117) (f := f) (t := 126) (i := 79) (by rw [HL]) (by decide)).trans (congrArg some e79)
   have x127 := (mkL_get (n := 117) (f := f) (t := 127) (i := 80) (by rw [HL]) (by decide)).trans (congrArg some e80)
   have x128 := (mkL_get (n := 117) (f := f) (t := 128) (i := 81) (by rw [HL]) (by decide)).trans (congrArg some e81)
   have E79 := Lib.hid e79
   clear e79
   have E80 := Lib.hid e80
   clear e80
   have E81 := Lib.hid e81
   clear e81
   go_simp
   refine (refused_yes _ _ _ 3 _ 3 _ 3 _ exU30 exOff exQ30 _ _ _ (HU.out.1.below hkp) (HU.out.2.2.2.1.below hkp) (HU.out.2.2.1.below hkp) (by decide) (by decide) (by decide) rx5 (by decide)).mono ?_
   rintro e v1 ⟨rfl, hbx⟩
   (try (go_wp2_with fail))
   refine fin_step HK.out (mkL_put (t := 129) (by rw [HL]) (by decide)) (HKK.out _ v1 (HS.out _ (Kp.trans hkp hbx)) hbx ?_ (fun _ _ _ => trivial))
   show Vis (Value.bool true) _ v1
   exact rfl
  refine lt_split (n := 81) ?_ ?_
  rotate_left
  ·intro f w' K hS hn hK
   have HN := Lib.hid hn
   have HKK := Lib.hid hK
   have hkp := hS.2
   have hS0 := Lib.hid hS
   clear hn hK hS
   have eg := (show Vis (Value.bool true) (f 78) w' from HN.out 78 (List.mem_of_elem_eq_true (by kernel_rfl)))
   refine wpOp_step rfl (fun K' hK' => ?_)
   rw [if_pos (wn1 rfl (yd (t := 125) rfl (by rw [HL]) (by decide) eg))]
   have HK := Lib.hid hK'
   clear hK' eg
   have x3 := (mkL_fix (n := 117) (f := f) p3)
   go_simp
   refine fin_step HK.out (mkL_put (t := 128) (by rw [HL]) (by decide)) (HKK.out (Value.slice (some ⟨gq, 0, none⟩) 3 3) w' hS0.out (Kp.refl w') ?_ (fun _ _ _ => trivial))
   show Vis (Value.slice (some ⟨gq, 0, none⟩) 3 3) (Value.slice (some ⟨gq, 0, none⟩) 3 3) w'
   exact rfl
  refine lt_split (n := 80) ?_ ?_
  rotate_left
  ·intro f w' K hS hn hK
   have HN := Lib.hid hn
   have HKK := Lib.hid hK
   have hkp := hS.2
   have hS0 := Lib.hid hS
   clear hn hK hS
   have eg := (show Vis (Value.bool true) (f 78) w' from HN.out 78 (List.mem_of_elem_eq_true (by kernel_rfl)))
   refine wpOp_step rfl (fun K' hK' => ?_)
   rw [if_pos (wn1 rfl (yd (t := 125) rfl (by rw [HL]) (by decide) eg))]
   have HK := Lib.hid hK'
   clear hK' eg
   have x6 := (mkL_fix (n := 117) (f := f) p6)
   go_simp
   refine fin_step HK.out (mkL_put (t := 127) (by rw [HL]) (by decide)) (HKK.out (Value.slice (some ⟨go, 0, none⟩) 3 3) w' hS0.out (Kp.refl w') ?_ (fun _ _ _ => trivial))
   show Vis (Value.slice (some ⟨go, 0, none⟩) 3 3) (Value.slice (some ⟨go, 0, none⟩) 3 3) w'
   exact rfl
  refine lt_split (n := 79) ?_ ?_
  rotate_left
  ·intro f w' K hS hn hK
   have HN := Lib.hid hn
   have HKK := Lib.hid hK
   have hkp := hS.2
   have hS0 := Lib.hid hS
   clear hn hK hS
   have eg := (show Vis (Value.bool true) (f 78) w' from HN.out 78 (List.mem_of_elem_eq_true (by kernel_rfl)))
   refine wpOp_step rfl (fun K' hK' => ?_)
   rw [if_pos (wn1 rfl (yd (t := 125) rfl (by rw [HL]) (by decide) eg))]
   have HK := Lib.hid hK'
   clear hK' eg
   have x1 := (mkL_fix (n := 117) (f := f) p1)
   go_simp
   refine fin_step HK.out (mkL_put (t := 126) (by rw [HL]) (by decide)) (HKK.out (Value.slice (some ⟨gu, 0, none⟩) 3 3) w' hS0.out (Kp.refl w') ?_ (fun _ _ _ => trivial))
   show Vis (Value.slice (some ⟨gu, 0, none⟩) 3 3) (Value.slice (some ⟨gu, 0, none⟩) 3 3) w'
   exact rfl
  refine lt_split (n := 78) ?_ ?_
  rotate_left
  ·intro f w' K hS hn hK
   have HN := Lib.hid hn
   have HKK := Lib.hid hK
   have hkp := hS.2
   have hS0 := Lib.hid hS
   clear hn hK hS
   have e77 := (show Vis (Value.bool true) (f 77) w' from HN.out 77 (List.mem_of_elem_eq_true (by kernel_rfl)))
   refine wpOp_step rfl (fun K' hK' => ?_)
   rw [if_pos (wn0 rfl)]
   have HK := Lib.hid hK'
   clear hK'
   have x124 := (mkL_get (n := 117) (f := f) (t := 124) (i := 77) (by rw [HL]) (by decide)).trans (congrArg some e77)
   have E77 := Lib.hid e77
   clear e77
   go_simp
   refine fin_step HK.out (mkL_put (t := 125) (by rw [HL]) (by decide)) (HKK.out (Value.bool true) w' hS0.out (Kp.refl w') ?_ (fun _ _ _ => trivial))
   show Vis (Value.bool true) (Value.bool true) w'
   exact rfl
  refine lt_split (n := 77) ?_ ?_
  rotate_left
  ·intro f w' K hS hn hK
   have HN := Lib.hid hn
   have HKK := Lib.hid hK
   have hkp := hS.2
   have hS0 := Lib.hid hS
   clear hn hK hS
   have e71 := (show Vis (Value.bool true) (f 71) w' from HN.out 71 (List.mem_of_elem_eq_true (by kernel_rfl)))
   have e76 := (show Vis (Value.bool true) (f 76) w' from HN.out 76 (List.mem_of_elem_eq_true (by kernel_rfl)))
   refine wpOp_step rfl (fun K' hK' => ?_)
   rw [if_pos (wn0 rfl)]
   have HK := Lib.hid hK'
   clear hK'
   have x118 := (mkL_get (n := 117) (f := f) (t := 118) (i := 71) (by rw [HL]) (by decide)).trans (congrArg some e71)
   have x123 := (mkL_get (n := 117) (f := f) (t := 123) (i := 76) (by rw [HL]) (by decide)).trans (congrArg some e76)
   have E71 := Lib.hid e71
   clear e71
   have E76 := Lib.hid e76
   clear e76
   go_simp
   refine fin_step HK.out (mkL_put (t := 124) (by rw [HL]) (by decide)) (HKK.out (Value.bool true) w' hS0.out (Kp.refl w') ?_ (fun _ _ _ => trivial))
   show Vis (Value.bool true) (Value.bool true) w'
   exact rfl
  refine lt_split (n := 76) ?_ ?_
  rotate_left
  ·intro f w' K hS hn hK
   have HN := Lib.hid hn
   have HKK := Lib.hid hK
   have hkp := hS.2
   have hS0 := Lib.hid hS
   clear hn hK hS
   have eg := (show Vis (Value.bool true) (f 71) w' from HN.out 71 (List.mem_of_elem_eq_true (by kernel_rfl)))
   have e72 := (show Vis (Value.slice (some ⟨gu, 0, none⟩) 3 3) (f 72) w' from HN.out 72 (List.mem_of_elem_eq_true (by kernel_rfl)))
   have e73 := (show Vis (Value.slice (some ⟨gb, 0, none⟩) 3 3) (f 73) w' from HN.out 73 (List.mem_of_elem_eq_true (by kernel_rfl)))
   have e75 := (show Vis (Value.slice (some ⟨gq, 0, none⟩) 2 3) (f 75) w' from HN.out 75 (List.mem_of_elem_eq_true (by kernel_rfl)))
   refine wpOp_step rfl (fun K' hK' => ?_)
   rw [if_pos (wn1 rfl (yd (t := 118) rfl (by rw [HL]) (by decide) eg))]
   have HK := Lib.hid hK'
   clear hK' eg
   have x119 := (mkL_get (n := 117) (f := f) (t := 119) (i := 72) (by rw [HL]) (by decide)).trans (congrArg some e72)
   have x120 := (mkL_get (n := 117) (f := f) (t := 120) (i := 73) (by rw [HL]) (by decide)).trans (congrArg some e73)
   have x122 := (mkL_get (n := 117) (f := f) (t := 122) (i := 75) (by rw [HL]) (by decide)).trans (congrArg some e75)
   have E72 := Lib.hid e72
   clear e72
   have E73 := Lib.hid e73
   clear e73
   have E75 := Lib.hid e75
   clear e75
   go_simp
   refine (refused_yes _ _ _ 3 _ 3 _ 2 _ exU30 exB30 (exQ30.take 2) _ _ _ (HU.out.1.below hkp) (HU.out.2.1.below hkp) ((HU.out.2.2.1.below hkp).front (k := 2) (by decide)) (by decide) (by decide) (by decide) rx4 (by decide)).mono ?_
   rintro e v1 ⟨rfl, hbx⟩
   (try (go_wp2_with fail))
   refine fin_step HK.out (mkL_put (t := 123) (by rw [HL]) (by decide)) (HKK.out _ v1 (HS.out _ (Kp.trans hkp hbx)) hbx ?_ (fun _ _ _ => trivial))
   show Vis (Value.bool true) _ v1
   exact rfl
  refine lt_split (n := 75) ?_ ?_
  rotate_left
  ·intro f w' K hS hn hK
   have HN := Lib.hid hn
   have HKK := Lib.hid hK
   have hkp := hS.2
   have hS0 := Lib.hid hS
   clear hn hK hS
   have eg := (show Vis (Value.bool true) (f 71) w' from HN.out 71 (List.mem_of_elem_eq_true (by kernel_rfl)))
   have e74 := (show Vis (Value.slice (some ⟨gq, 0, none⟩) 3 3) (f 74) w' from HN.out 74 (List.mem_of_elem_eq_true (by kernel_rfl)))
   refine wpOp_step rfl (fun K' hK' => ?_)
   rw [if_pos (wn1 rfl (yd (t := 118) rfl (by rw [HL]) (by decide) eg))]
   have HK := Lib.hid hK'
   clear hK' eg
   have x121 := (mkL_get (n := 117) (f := f) (t := 121) (i := 74) (by rw [HL]) (by decide)).trans (congrArg some e74)
   have E74 := Lib.hid e74
   clear e74
   go_simp
   refine fin_step HK.out (mkL_put (t := 122) (by rw [HL]) (by decide)) (HKK.out (Value.slice (some ⟨gq, 0, none⟩) 2 3) w' hS0.out (Kp.refl w') ?_ (fun _ _ _ => trivial))
   show Vis (Value.slice (some ⟨gq, 0, none⟩) 2 3) (Value.slice (some ⟨gq, 0, none⟩) 2 3) w'
   exact rfl
  refine lt_split (n := 74) ?_ ?_
  rotate_left
  ·intro f w' K hS hn hK
   have HN := Lib.hid hn
   have HKK := Lib.hid hK
   have hkp := hS.2
   have hS0 := Lib.hid hS
   clear hn hK hS
   have eg := (show Vis (Value.bool true) (f 71) w' from HN.out 71 (List.mem_of_elem_eq_true (by kernel_rfl)))
   refine wpOp_step rfl (fun K' hK' => ?_)
   rw [if_pos (wn1 rfl (yd (t := 118) rfl (by rw [HL]) (by decide) eg))]
   have HK := Lib.hid hK'
   clear hK' eg
   have x3 := (mkL_fix (n := 117) (f := f) p3)
   go_simp
   refine fin_step HK.out (mkL_put (t := 121) (by rw [HL]) (by decide)) (HKK.out (Value.slice (some ⟨gq, 0, none⟩) 3 3) w' hS0.out (Kp.refl w') ?_ (fun _ _ _ => trivial))
   show Vis (Value.slice (some ⟨gq, 0, none⟩) 3 3) (Value.slice (some ⟨gq, 0, none⟩) 3 3) w'
   exact rfl
  refine lt_split (n := 73) ?_ ?_
  rotate_left
  ·intro f w' K hS hn hK
   have HN := Lib.hid hn
   have HKK := Lib.hid hK
   have hkp := hS.2
   have hS0 := Lib.hid hS
   clear hn hK hS
   have eg := (show Vis (Value.bool true) (f 71) w' from HN.out 71 (List.mem_of_elem_eq_true (by kernel_rfl)))
   refine wpOp_step rfl (fun K' hK' => ?_)
   rw [if_pos (wn1 rfl (yd (t := 118) rfl (by rw [HL]) (by decide) eg))]
   have HK := Lib.hid hK'
   clear hK' eg
   have x2 := (mkL_fix (n := 117) (f := f) p2)
   go_simp
   refine fin_step HK.out (mkL_put (t := 120) (by rw [HL]) (by decide)) (HKK.out (Value.slice (some ⟨gb, 0, none⟩) 3 3) w' hS0.out (Kp.refl w') ?_ (fun _ _ _ => trivial))
   show Vis (Value.slice (some ⟨gb, 0, none⟩) 3 3) (Value.slice (some ⟨gb, 0, none⟩) 3 3) w'
   exact rfl
  refine lt_split (n := 72) ?_ ?_
  rotate_left
  ·intro f w' K hS hn hK
   have HN := Lib.hid hn
   have HKK := Lib.hid hK
   have hkp := hS.2
   have hS0 := Lib.hid hS
   clear hn hK hS
   have eg := (show Vis (Value.bool true) (f 71) w' from HN.out 71 (List.mem_of_elem_eq_true (by kernel_rfl)))
   refine wpOp_step rfl (fun K' hK' => ?_)
   rw [if_pos (wn1 rfl (yd (t := 118) rfl (by rw [HL]) (by decide) eg))]
   have HK := Lib.hid hK'
   clear hK' eg
   have x1 := (mkL_fix (n := 117) (f := f) p1)
   go_simp
   refine fin_step HK.out (mkL_put (t := 119) (by rw [HL]) (by decide)) (HKK.out (Value.slice (some ⟨gu, 0, none⟩) 3 3) w' hS0.out (Kp.refl w') ?_ (fun _ _ _ => trivial))
   show Vis (Value.slice (some ⟨gu, 0, none⟩) 3 3) (Value.slice (some ⟨gu, 0, none⟩) 3 3) w'
   exact rfl
  refine lt_split (n := 71) ?_ ?_
  rotate_left
  ·intro f w' K hS hn hK
   have HN := Lib.hid hn
   have HKK := Lib.hid hK
   have hkp := hS.2
   have hS0 := Lib.hid hS
   clear hn hK hS
   have e70 := (show Vis (Value.bool true) (f 70) w' from HN.out 70 (List.mem_of_elem_eq_true (by kernel_rfl)))
   refine wpOp_step rfl (fun K' hK' => ?_)
   rw [if_pos (wn0 rfl)]
   have HK := Lib.hid hK'
   clear hK'
   have x117 := (mkL_get (n := 117) (f := f) (t := 117) (i := 70) (by rw [HL]) (by decide)).trans (congrArg some e70)
   have E70 := Lib.hid e70
   clear e70
   go_simp
   refine fin_step HK.out (mkL_put (t := 118) (by rw [HL]) (by decide)) (HKK.out (Value.bool true) w' hS0.out (Kp.refl w') ?_ (fun _ _ _ => trivial))
   show Vis (Value.bool true) (Value.bool true) w'
   exact rfl
  refine lt_split (n := 70) ?_ ?_
  rotate_left
  ·intro f w' K hS hn hK
   have HN := Lib.hid hn
   have HKK := Lib.hid hK
   have hkp := hS.2
   have hS0 := Lib.hid hS
   clear hn hK hS
   have e65 := (show Vis (Value.bool true) (f 65) w' from HN.out 65 (List.mem_of_elem_eq_true (by kernel_rfl)))
   have e69 := (show Vis (Value.bool true) (f 69) w' from HN.out 69 (List.mem_of_elem_eq_true (by kernel_rfl)))
   refine wpOp_step rfl (fun K' hK' => ?_)
   rw [if_pos (wn0 rfl)]
   have HK := Lib.hid hK'
   clear hK'
   have x112 := (mkL_get (n := 117) (f := f) (t := 112) (i := 65) (by rw [HL]) (by decide)).trans (congrArg some e65)
   have x116 := (mkL_get (n := 117) (f := f) (t := 116) (i := 69) (by rw [HL]) (by decide)).trans (congrArg some e69)
   have E65 := Lib.hid e65
   clear e65
   have E69 := Lib.hid e69
   clear e69
   go_simp
   refine fin_step HK.out (mkL_put (t := 117) (by rw [HL]) (by decide)) (HKK.out (Value.bool true) w' hS0.out (Kp.refl w') ?_ (fun _ _ _ => trivial))
   show Vis (Value.bool true) (Value.bool true) w'
   exact rfl
  refine lt_split (n := 69) ?_ ?_
  rotate_left
  ·intro f w' K hS hn hK
   have HN := Lib.hid hn
   have HKK := Lib.hid hK
   have hkp := hS.2
   have hS0 := Lib.hid hS
   clear hn hK hS
   have eg := (show Vis (Value.bool true) (f 65) w' from HN.out 65 (List.mem_of_elem_eq_true (by kernel_rfl)))
   have e66 := (show Vis (Value.slice (some ⟨gu, 0, none⟩) 3 3) (f 66) w' from HN.out 66 (List.mem_of_elem_eq_true (by kernel_rfl)))
   have e68 := (show Vis (Value.slice (some ⟨gb, 0, none⟩) 2 3) (f 68) w' from HN.out 68 (List.mem_of_elem_eq_true (by kernel_rfl)))
   refine wpOp_step rfl (fun K' hK' => ?_)
   rw [if_pos (wn1 rfl (yd (t := 112) rfl (by rw [HL]) (by decide) eg))]
   have HK := Lib.hid hK'
   clear hK' eg
   have x113 := (mkL_get (n := 117) (f := f) (t := 113) (i := 66) (by rw [HL]) (by decide)).trans (congrArg some e66)
   have x115 := (mkL_get (n := 117) (f := f) (t := 115) (i := 68) (by rw [HL]) (by decide)).trans (congrArg some e68)
   have E66 := Lib.hid e66
   clear e66
   have E68 := Lib.hid e68
   clear e68
   go_simp
   refine (refused_yes _ _ _ 3 _ 2 _ 0 _ exU30 [true, true] [] _ _ _ (HU.out.1.below hkp) ((HU.out.2.1.below hkp).front (k := 2) (by decide)) (GsAt.none _ _) (by decide) (by decide) (by decide) rx3 (by decide)).mono ?_
   rintro e v1 ⟨rfl, hbx⟩
   (try (go_wp2_with fail))
   refine fin_step HK.out (mkL_put (t := 116) (by rw [HL]) (by decide)) (HKK.out _ v1 (HS.out _ (Kp.trans hkp hbx)) hbx ?_ (fun _ _ _ => trivial))
   show Vis (Value.bool true) _ v1
   exact rfl
  refine lt_split (n := 68) ?_ ?_
  rotate_left
  ·intro f w' K hS hn hK
   have HN := Lib.hid hn
   have HKK := Lib.hid hK
   have hkp := hS.2
   have hS0 := Lib.hid hS
   clear hn hK hS
   have eg := (show Vis (Value.bool true) (f 65) w' from HN.out 65 (List.mem_of_elem_eq_true (by kernel_rfl)))
   have e67 := (show Vis (Value.slice (some ⟨gb, 0, none⟩) 3 3) (f 67) w' from HN.out 67 (List.mem_of_elem_eq_true (by kernel_rfl)))
   refine wpOp_step rfl (fun K' hK' => ?_)
   rw [if_pos (wn1 rfl (yd (t := 112) rfl (by rw [HL]) (by decide) eg))]
   have HK := Lib.hid hK'
   clear hK' eg
   have x114 := (mkL_get (n := 117) (f := f) (t := 114) (i := 67) (by rw [HL]) (by decide)).trans (congrArg some e67)
   have E67 := Lib.hid e67
   clear e67
   go_simp
   refine fin_step HK.out (mkL_put (t := 115) (by rw [HL]) (by decide)) (HKK.out (Value.slice (some ⟨gb, 0, none⟩) 2 3) w' hS0.out (Kp.refl w') ?_ (fun _ _ _ => trivial))
   show Vis (Value.slice (some ⟨gb, 0, none⟩) 2 3) (Value.slice (some ⟨gb, 0, none⟩) 2 3) w'
   exact rfl
  refine lt_split (n := 67) ?_ ?_
  rotate_left
  ·intro f w' K hS hn hK
   have HN := Lib.hid hn
   have HKK := Lib.hid hK
   have hkp := hS.2
   have hS0 := Lib.hid hS
   clear hn hK hS
   have eg := (show Vis (Value.bool true) (f 65) w' from HN.out 65 (List.mem_of_elem_eq_true (by kernel_rfl)))
   refine wpOp_step rfl (fun K' hK' => ?_)
   rw [if_pos (wn1 rfl (yd (t := 112) rfl (by rw [HL]) (by decide) eg))]
   have HK := Lib.hid hK'
   clear hK' eg
   have x2 := (mkL_fix (n := 117) (f := f) p2)
   go_simp
   refine fin_step HK.out (mkL_put (t := 114) (by rw [HL]) (by decide)) (HKK.out (Value.slice (some ⟨gb, 0, none⟩) 3 3) w' hS0.out (Kp.refl w') ?_ (fun _ _ _ => trivial))
   show Vis (Value.slice (some ⟨gb, 0, none⟩) 3 3) (Value.slice (some ⟨gb, 0, none⟩) 3 3) w'
   exact rfl
  refine lt_split (n := 66) ?_ ?_
  rotate_left
  ·intro f w' K hS hn hK
   have HN := Lib.hid hn
   have HKK := Lib.hid hK
   have hkp := hS.2
   have hS0 := Lib.hid hS
   clear hn hK hS
   have eg := (show Vis (Value.bool true) (f 65) w' from HN.out 65 (List.mem_of_elem_eq_true (by kernel_rfl)))
   refine wpOp_step rfl (fun K' hK' => ?_)
   rw [if_pos (wn1 rfl (yd (t := 112) rfl (by rw [HL]) (by decide) eg))]
   have HK := Lib.hid hK'
   clear hK' eg
   have x1 := (mkL_fix (n := 117) (f := f) p1)
   go_simp
   refine fin_step HK.out (mkL_put (t := 113) (by rw [HL]) (by decide)) (HKK.out (Value.slice (some ⟨gu, 0, none⟩) 3 3) w' hS0.out (Kp.refl w') ?_ (fun _ _ _ => trivial))
   show Vis (Value.slice (some ⟨gu, 0, none⟩) 3 3) (Value.slice (some ⟨gu, 0, none⟩) 3 3) w'
   exact rfl
  refine lt_split (n := 65) ?_ ?_
  rotate_left
  ·intro f w' K hS hn hK
   have HN := Lib.hid hn
   have HKK := Lib.hid hK
   have hkp := hS.2
   have hS0 := Lib.hid hS
   clear hn hK hS
   have e64 := (show Vis (Value.bool true) (f 64) w' from HN.out 64 (List.mem_of_elem_eq_true (by kernel_rfl)))
   refine wpOp_step rfl (fun K' hK' => ?_)
   rw [if_pos (wn0 rfl)]
   have HK := Lib.hid hK'
   clear hK'
   have x111 := (mkL_get (n := 117) (f := f) (t := 111) (i := 64) (by rw [HL]) (by decide)).trans (congrArg some e64)
   have E64 := Lib.hid e64
   clear e64
   go_simp
   refine fin_step HK.out (mkL_put (t := 112) (by rw [HL]) (by decide)) (HKK.out (Value.bool true) w' hS0.out (Kp.refl w') ?_ (fun _ _ _ => trivial))
   show Vis (Value.bool true) (Value.bool true) w'
   exact rfl
  refine lt_split (n := 64) ?_ ?_
  rotate_left
  ·intro f w' K hS hn hK
   have HN := Lib.hid hn
   have HKK := Lib.hid hK
   have hkp := hS.2
   have hS0 := Lib.hid hS
   clear hn hK hS
   have e60 := (show Vis (Value.bool true) (f 60) w' from HN.out 60 (List.mem_of_elem_eq_true (by kernel_rfl)))
   have e63 := (show Vis (Value.bool true) (f 63) w' from HN.out 63 (List.mem_of_elem_eq_true (by kernel_rfl)))
   refine wpOp_step rfl (fun K' hK' => ?_)
   rw [if_pos (wn0 rfl)]
   have HK := Lib.hid hK'
   clear hK'
   have x107 := (mkL_get (n := 117) (f := f) (t := 107) (i := 60) (by rw [HL]) (by decide)).trans (congrArg some e60)
   have x110 := (mkL_get (n := 117) (f := f) (t := 110) (i := 63) (by rw [HL]) (by decide)).trans (congrArg some e63)
   have E60 := Lib.hid e60
   clear e60
   have E63 := Lib.hid e63
   clear e63
   go_simp
   refine fin_step HK.out (mkL_put (t := 111) (by rw [HL]) (by decide)) (HKK.out (Value.bool true) w' hS0.out (Kp.refl w') ?_ (fun _ _ _ => trivial))
   show Vis (Value.bool true) (Value.bool true) w'
   exact rfl
  refine lt_split (n := 63) ?_ ?_
  rotate_left
  ·intro f w' K hS hn hK
   have HN := Lib.hid hn
   have HKK := Lib.hid hK
   have hkp := hS.2
   have hS0 := Lib.hid hS
   clear hn hK hS
   have eg := (show Vis (Value.bool true) (f 60) w' from HN.out 60 (List.mem_of_elem_eq_true (by kernel_rfl)))
   obtain ⟨g62, e62, r62⟩ := (show VU 1 [exBad] (f 62) w' from HN.out 62 (List.mem_of_elem_eq_true (by kernel_rfl)))
   refine wpOp_step rfl (fun K' hK' => ?_)
   rw [if_pos (wn1 rfl (yd (t := 107) rfl (by rw [HL]) (by decide) eg))]
   have HK := Lib.hid hK'
   clear hK' eg
   have x109 := (mkL_get (n := 117) (f := f) (t := 109) (i := 62) (by rw [HL]) (by decide)).trans (congrArg some e62)
   have E62 := Lib.hid e62
   clear e62
   go_simp
   refine (refused_yes _ _ _ 1 _ 0 _ 0 _ [exBad] [] [] _ _ _ r62 (BsAt.none _) (GsAt.none _ _) (by decide) (by decide) (by decide) rx2 (by decide)).mono ?_
   rintro e v1 ⟨rfl, hbx⟩
   (try (go_wp2_with fail))
   refine fin_step HK.out (mkL_put (t := 110) (by rw [HL]) (by decide)) (HKK.out _ v1 (HS.out _ (Kp.trans hkp hbx)) hbx ?_ (fun _ _ _ => trivial))
   show Vis (Value.bool true) _ v1
   exact rfl
  refine lt_split (n := 62) ?_ ?_
  rotate_left
  ·intro f w' K hS hn hK
   have HN := Lib.hid hn
   have HKK := Lib.hid hK
   have hkp := hS.2
   have hS0 := Lib.hid hS
   clear hn hK hS
   have eg := (show Vis (Value.bool true) (f 60) w' from HN.out 60 (List.mem_of_elem_eq_true (by kernel_rfl)))
   have e61 := (show Vis (Value.agg #[Value.int .i64 0, Value.int .i64 0, Value.slice (some ⟨gw, 0, none⟩) 1 1, Value.int .i64 1, Value.int .i64 1, Value.int .i64 0, Value.int .i64 0, Value.int .i64 0, Value.int .i64 1]) (f 61) w' from HN.out 61 (List.mem_of_elem_eq_true (by kernel_rfl)))
   refine wpOp_step rfl (fun K' hK' => ?_)
   rw [if_pos (wn1 rfl (yd (t := 107) rfl (by rw [HL]) (by decide) eg))]
   have HK := Lib.hid hK'
   clear hK' eg
   have x108 := (mkL_get (n := 117) (f := f) (t := 108) (i := 61) (by rw [HL]) (by decide)).trans (congrArg some e61)
   have E61 := Lib.hid e61
   clear e61
   go_simp
   have ka := (Kp.refl w').alloc (.cells #[Value.int .i64 0, Value.int .i64 0, Value.slice (some ⟨gw, 0, none⟩) 1 1, Value.int .i64 1, Value.int .i64 1, Value.int .i64 0, Value.int .i64 0, Value.int .i64 0, Value.int .i64 1] 48)
   refine fin_step HK.out (mkL_put (t := 109) (by rw [HL]) (by decide)) (HKK.out _ _ (HS.out _ (Kp.trans hkp ka)) ka ?_ (fun _ _ _ => trivial))
   show VU 1 [exBad] _ _
   exact ⟨_, rfl, (ua_one (Blk.new _ _ _) (HU.out.2.2.2.2.2.2.2.1.below (Kp.trans hkp ka)))⟩
  refine lt_split (n := 61) ?_ ?_
  rotate_left
  ·intro f w' K hS hn hK
   have HN := Lib.hid hn
   have HKK := Lib.hid hK
   have hkp := hS.2
   have hS0 := Lib.hid hS
   clear hn hK hS
   have eg := (show Vis (Value.bool true) (f 60) w' from HN.out 60 (List.mem_of_elem_eq_true (by kernel_rfl)))
   refine wpOp_step rfl (fun K' hK' => ?_)
   rw [if_pos (wn1 rfl (yd (t := 107) rfl (by rw [HL]) (by decide) eg))]
   have HK := Lib.hid hK'
   clear hK' eg
   have x8 := (mkL_fix (n := 117) (f := f) p8)
   obtain ⟨⟨a0, a1, a2, a3, a4, a5, a6, a7, a8, a9, a10, a11, a12, a13, a14, a15, a16⟩, -⟩ := hS0.out
   go_simp
   refine fin_step HK.out (mkL_put (t := 108) (by rw [HL]) (by decide)) (HKK.out (Value.agg #[Value.int .i64 0, Value.int .i64 0, Value.slice (some ⟨gw, 0, none⟩) 1 1, Value.int .i64 1, Value.int .i64 1, Value.int .i64 0, Value.int .i64 0, Value.int .i64 0, Value.int .i64 1]) w' hS0.out (Kp.refl w') ?_ (fun _ _ _ => trivial))
   show Vis (Value.agg #[Value.int .i64 0, Value.int .i64 0, Value.slice (some ⟨gw, 0, none⟩) 1 1, Value.int .i64 1, Value.int .i64 1, Value.int .i64 0, Value.int .i64 0, Value.int .i64 0, Value.int .i64 1]) (Value.agg #[Value.int .i64 0, Value.int .i64 0, Value.slice (some ⟨gw, 0, none⟩) 1 1, Value.int .i64 1, Value.int .i64 1, Value.int .i64 0, Value.int .i64 0, Value.int .i64 0, Value.int .i64 1]) w'
   exact rfl
  refine lt_split (n := 60) ?_ ?_
  rotate_left
  ·intro f w' K hS hn hK
   have HN := Lib.hid hn
   have HKK := Lib.hid hK
   have hkp := hS.2
   have hS0 := Lib.hid hS
   clear hn hK hS
   have e59 := (show Vis (Value.bool true) (f 59) w' from HN.out 59 (List.mem_of_elem_eq_true (by kernel_rfl)))
   refine wpOp_step rfl (fun K' hK' => ?_)
   rw [if_pos (wn0 rfl)]
   have HK := Lib.hid hK'
   clear hK'
   have x106 := (mkL_get (n := 117) (f := f) (t := 106) (i := 59) (by rw [HL]) (by decide)).trans (congrArg some e59)
   have E59 := Lib.hid e59
   clear e59
   go_simp
   refine fin_step HK.out (mkL_put (t := 107) (by rw [HL]) (by decide)) (HKK.out (Value.bool true) w' hS0.out (Kp.refl w') ?_ (fun _ _ _ => trivial))
   show Vis (Value.bool true) (Value.bool true) w'
   exact rfl
  refine lt_split (n := 59) ?_ ?_
  rotate_left
  ·intro f w' K hS hn hK
   have HN := Lib.hid hn
   have HKK := Lib.hid hK
   have hkp := hS.2
   have hS0 := Lib.hid hS
   clear hn hK hS
   have e56 := (show Vis (Value.bool true) (f 56) w' from HN.out 56 (List.mem_of_elem_eq_true (by kernel_rfl)))
   have e58 := (show Vis (Value.bool true) (f 58) w' from HN.out 58 (List.mem_of_elem_eq_true (by kernel_rfl)))
   refine wpOp_step rfl (fun K' hK' => ?_)
   rw [if_pos (wn0 rfl)]
   have HK := Lib.hid hK'
   clear hK'
   have x103 := (mkL_get (n := 117) (f := f) (t := 103) (i := 56) (by rw [HL]) (by decide)).trans (congrArg some e56)
   have x105 := (mkL_get (n := 117) (f := f) (t := 105) (i := 58) (by rw [HL]) (by decide)).trans (congrArg some e58)
   have E56 := Lib.hid e56
   clear e56
   have E58 := Lib.hid e58
   clear e58
   go_simp
   refine fin_step HK.out (mkL_put (t := 106) (by rw [HL]) (by decide)) (HKK.out (Value.bool true) w' hS0.out (Kp.refl w') ?_ (fun _ _ _ => trivial))
   show Vis (Value.bool true) (Value.bool true) w'
   exact rfl
  refine lt_split (n := 58) ?_ ?_
  rotate_left
  ·intro f w' K hS hn hK
   have HN := Lib.hid hn
   have HKK := Lib.hid hK
   have hkp := hS.2
   have hS0 := Lib.hid hS
   clear hn hK hS
   have eg := (show Vis (Value.bool true) (f 56) w' from HN.out 56 (List.mem_of_elem_eq_true (by kernel_rfl)))
   have e57 := (show Vis (Value.slice (some ⟨gs, 0, none⟩) 6 6) (f 57) w' from HN.out 57 (List.mem_of_elem_eq_true (by kernel_rfl)))
   refine wpOp_step rfl (fun K' hK' => ?_)
   rw [if_pos (wn1 rfl (yd (t := 103) rfl (by rw [HL]) (by decide) eg))]
   have HK := Lib.hid hK'
   clear hK' eg
   have x104 := (mkL_get (n := 117) (f := f) (t := 104) (i := 57) (by rw [HL]) (by decide)).trans (congrArg some e57)
   have E57 := Lib.hid e57
   clear e57
   go_simp
   refine (refused_yes _ _ _ 6 _ 0 _ 0 _ [exBad, exBad, exBad, exBad, exBad, exBad] [] [] _ _ _ (HU.out.2.2.2.2.2.1.below hkp) (BsAt.none _) (GsAt.none _ _) (by decide) (by decide) (by decide) rx1 (by decide)).mono ?_
   rintro e v1 ⟨rfl, hbx⟩
   (try (go_wp2_with fail))
   refine fin_step HK.out (mkL_put (t := 105) (by rw [HL]) (by decide)) (HKK.out _ v1 (HS.out _ (Kp.trans hkp hbx)) hbx ?_ (fun _ _ _ => trivial))
   show Vis (Value.bool true) _ v1
   exact rfl
  refine lt_split (n := 57) ?_ ?_
  rotate_left
  ·intro f w' K hS hn hK
   have HN := Lib.hid hn
   have HKK := Lib.hid hK
   have hkp := hS.2
   have hS0 := Lib.hid hS
   clear hn hK hS
   have eg := (show Vis (Value.bool true) (f 56) w' from HN.out 56 (List.mem_of_elem_eq_true (by kernel_rfl)))
   refine wpOp_step rfl (fun K' hK' => ?_)
   rw [if_pos (wn1 rfl (yd (t := 103) rfl (by rw [HL]) (by decide) eg))]
   have HK := Lib.hid hK'
   clear hK' eg
   have x9 := (mkL_fix (n := 117) (f := f) p9)
   go_simp
   refine fin_step HK.out (mkL_put (t := 104) (by rw [HL]) (by decide)) (HKK.out (Value.slice (some ⟨gs, 0, none⟩) 6 6) w' hS0.out (Kp.refl w') ?_ (fun _ _ _ => trivial))
   show Vis (Value.slice (some ⟨gs, 0, none⟩) 6 6) (Value.slice (some ⟨gs, 0, none⟩) 6 6) w'
   exact rfl
  refine lt_split (n := 56) ?_ ?_
  rotate_left
  ·intro f w' K hS hn hK
   have HN := Lib.hid hn
   have HKK := Lib.hid hK
   have hkp := hS.2
   have hS0 := Lib.hid hS
   clear hn hK hS
   have e55 := (show Vis (Value.bool true) (f 55) w' from HN.out 55 (List.mem_of_elem_eq_true (by kernel_rfl)))
   refine wpOp_step rfl (fun K' hK' => ?_)
   rw [if_pos (wn0 rfl)]
   have HK := Lib.hid hK'
   clear hK'
   have x102 := (mkL_get (n := 117) (f := f) (t := 102) (i := 55) (by rw [HL]) (by decide)).trans (congrArg some e55)
   have E55 := Lib.hid e55
   clear e55
   go_simp
   refine fin_step HK.out (mkL_put (t := 103) (by rw [HL]) (by decide)) (HKK.out (Value.bool true) w' hS0.out (Kp.refl w') ?_ (fun _ _ _ => trivial))
   show Vis (Value.bool true) (Value.bool true) w'
   exact rfl
  refine lt_split (n := 55) ?_ ?_
  rotate_left
  ·intro f w' K hS hn hK
   have HN := Lib.hid hn
   have HKK := Lib.hid hK
   have hkp := hS.2
   have hS0 := Lib.hid hS
   clear hn hK hS
   have e43 := (show Vis (Value.bool true) (f 43) w' from HN.out 43 (List.mem_of_elem_eq_true (by kernel_rfl)))
   have e54 := (show Vis (Value.bool true) (f 54) w' from HN.out 54 (List.mem_of_elem_eq_true (by kernel_rfl)))
   refine wpOp_step rfl (fun K' hK' => ?_)
   rw [if_pos (wn0 rfl)]
   have HK := Lib.hid hK'
   clear hK'
   have x90 := (mkL_get (n := 117) (f := f) (t := 90) (i := 43) (by rw [HL]) (by decide)).trans (congrArg some e43)
   have x101 := (mkL_get (n := 117) (f := f) (t := 101) (i := 54) (by rw [HL]) (by decide)).trans (congrArg some e54)
   have E43 := Lib.hid e43
   clear e43
   have E54 := Lib.hid e54
   clear e54
   go_simp
   refine fin_step HK.out (mkL_put (t := 102) (by rw [HL]) (by decide)) (HKK.out (Value.bool true) w' hS0.out (Kp.refl w') ?_ (fun _ _ _ => trivial))
   show Vis (Value.bool true) (Value.bool true) w'
   exact rfl
  refine lt_split (n := 54) ?_ ?_
  rotate_left
  ·intro f w' K hS hn hK
   have HN := Lib.hid hn
   have HKK := Lib.hid hK
   have hkp := hS.2
   have hS0 := Lib.hid hS
   clear hn hK hS
   have eg := (show Vis (Value.bool true) (f 43) w' from HN.out 43 (List.mem_of_elem_eq_true (by kernel_rfl)))
   have e44 := (show Vis (Value.slice (some ⟨gg, 0, none⟩) 1 1) (f 44) w' from HN.out 44 (List.mem_of_elem_eq_true (by kernel_rfl)))
   have e46 := (show Vis (Value.slice (some ⟨gb, 0, none⟩) 1 3) (f 46) w' from HN.out 46 (List.mem_of_elem_eq_true (by kernel_rfl)))
   obtain ⟨g49, e49, r49⟩ := (show VQ 1 [ι (1000000)] (f 49) w' from HN.out 49 (List.mem_of_elem_eq_true (by kernel_rfl)))
   obtain ⟨A51, k51, c51, B51, l51, d51, e51, r51⟩ := (show Vq (ι (1000000)) (f 51) w' from HN.out 51 (List.mem_of_elem_eq_true (by kernel_rfl)))
   obtain ⟨g53, e53, r53⟩ := (show VQ 1 [0] (f 53) w' from HN.out 53 (List.mem_of_elem_eq_true (by kernel_rfl)))
   refine wpOp_step rfl (fun K' hK' => ?_)
   rw [if_pos (wn1 rfl (yd (t := 90) rfl (by rw [HL]) (by decide) eg))]
   have HK := Lib.hid hK'
   clear hK' eg
   have x91 := (mkL_get (n := 117) (f := f) (t := 91) (i := 44) (by rw [HL]) (by decide)).trans (congrArg some e44)
   have x93 := (mkL_get (n := 117) (f := f) (t := 93) (i := 46) (by rw [HL]) (by decide)).trans (congrArg some e46)
   have x96 := (mkL_get (n := 117) (f := f) (t := 96) (i := 49) (by rw [HL]) (by decide)).trans (congrArg some e49)
   have x98 := (mkL_get (n := 117) (f := f) (t := 98) (i := 51) (by rw [HL]) (by decide)).trans (congrArg some e51)
   have x100 := (mkL_get (n := 117) (f := f) (t := 100) (i := 53) (by rw [HL]) (by decide)).trans (congrArg some e53)
   have E44 := Lib.hid e44
   clear e44
   have E46 := Lib.hid e46
   clear e46
   have E49 := Lib.hid e49
   clear e49
   have E51 := Lib.hid e51
   clear e51
   have E53 := Lib.hid e53
   clear e53
   go_simp
   refine (fills_yes _ _ _ _ _ _ 1 _ 1 _ 1 _ _ _ _ _ _ exGreat [true] [((1000000 : Int) : Rat)] _ _ _ _ _ _ (HU.out.2.2.2.2.2.2.1.below hkp) ((HU.out.2.1.below hkp).front (k := 1) (by decide)) (gs_one HI.out r49) (by decide) (by decide) (by decide) cx5 fx5 (by have h := r53; (try simp only [HI.out] at h); exact h) (by have h := r51; rw [HI.out] at h; exact h) (by rw [HI.out])).mono ?_
   rintro e v1 ⟨rfl, hbx⟩
   (try (go_wp2_with fail))
   refine fin_step HK.out (mkL_put (t := 101) (by rw [HL]) (by decide)) (HKK.out _ v1 (HS.out _ (Kp.trans hkp hbx)) hbx ?_ (fun _ _ _ => trivial))
   show Vis (Value.bool true) _ v1
   exact rfl
  refine lt_split (n := 53) ?_ ?_
  rotate_left
  ·intro f w' K hS hn hK
   have HN := Lib.hid hn
   have HKK := Lib.hid hK
   have hkp := hS.2
   have hS0 := Lib.hid hS
   clear hn hK hS
   have eg := (show Vis (Value.bool true) (f 43) w' from HN.out 43 (List.mem_of_elem_eq_true (by kernel_rfl)))
   have e52 := (show Vis (Value.agg #[Value.bool false, Value.slice none 0 0, Value.bool false, Value.slice none 0 0]) (f 52) w' from HN.out 52 (List.mem_of_elem_eq_true (by kernel_rfl)))
   refine wpOp_step rfl (fun K' hK' => ?_)
   rw [if_pos (wn1 rfl (yd (t := 90) rfl (by rw [HL]) (by decide) eg))]
   have HK := Lib.hid hK'
   clear hK' eg
   have x99 := (mkL_get (n := 117) (f := f) (t := 99) (i := 52) (by rw [HL]) (by decide)).trans (congrArg some e52)
   have E52 := Lib.hid e52
   clear e52
   go_simp
   have ka := (Kp.refl w').alloc (.cells #[.bool false, .slice none 0 0, .bool false, .slice none 0 0] 31)
   refine fin_step HK.out (mkL_put (t := 100) (by rw [HL]) (by decide)) (HKK.out _ _ (HS.out _ (Kp.trans hkp ka)) ka ?_ (fun _ _ _ => trivial))
   show VQ 1 [0] _ _
   exact ⟨_, rfl, (QsAt.lit1 (Blk.new _ _ _) (rq_zero _) rfl)⟩
  refine lt_split (n := 52) ?_ ?_
  rotate_left
  ·intro f w' K hS hn hK
   have HN := Lib.hid hn
   have HKK := Lib.hid hK
   have hkp := hS.2
   have hS0 := Lib.hid hS
   clear hn hK hS
   have eg := (show Vis (Value.bool true) (f 43) w' from HN.out 43 (List.mem_of_elem_eq_true (by kernel_rfl)))
   refine wpOp_step rfl (fun K' hK' => ?_)
   rw [if_pos (wn1 rfl (yd (t := 90) rfl (by rw [HL]) (by decide) eg))]
   have HK := Lib.hid hK'
   clear hK' eg
   have x5 := (mkL_fix (n := 117) (f := f) p5)
   obtain ⟨⟨a0, a1, a2, a3, a4, a5, a6, a7, a8, a9, a10, a11, a12, a13, a14, a15, a16⟩, -⟩ := hS0.out
   go_simp
   refine fin_step HK.out (mkL_put (t := 99) (by rw [HL]) (by decide)) (HKK.out (Value.agg #[Value.bool false, Value.slice none 0 0, Value.bool false, Value.slice none 0 0]) w' hS0.out (Kp.refl w') ?_ (fun _ _ _ => trivial))
   show Vis (Value.agg #[Value.bool false, Value.slice none 0 0, Value.bool false, Value.slice none 0 0]) (Value.agg #[Value.bool false, Value.slice none 0 0, Value.bool false, Value.slice none 0 0]) w'
   exact rfl
  refine lt_split (n := 51) ?_ ?_
  rotate_left
  ·intro f w' K hS hn hK
   have HN := Lib.hid hn
   have HKK := Lib.hid hK
   have hkp := hS.2
   have hS0 := Lib.hid hS
   clear hn hK hS
   have eg := (show Vis (Value.bool true) (f 43) w' from HN.out 43 (List.mem_of_elem_eq_true (by kernel_rfl)))
   have e50 := (show Vis (Value.func (Fn.func 20) #[] #[]) (f 50) w' from HN.out 50 (List.mem_of_elem_eq_true (by kernel_rfl)))
   refine wpOp_step rfl (fun K' hK' => ?_)
   rw [if_pos (wn1 rfl (yd (t := 90) rfl (by rw [HL]) (by decide) eg))]
   have HK := Lib.hid hK'
   clear hK' eg
   have x97 := (mkL_get (n := 117) (f := f) (t := 97) (i := 50) (by rw [HL]) (by decide)).trans (congrArg some e50)
   have E50 := Lib.hid e50
   clear e50
   go_simp
   refine (TW.out (1000000) (by decide) _).mono ?_
   rintro e v1 ⟨A1, k1, c1, B1, j1, d1, rfl, hk9, hj9, hW9, hX9, -, -, hbx⟩
   (try (go_wp2_with fail))
   refine fin_step HK.out (mkL_put (t := 98) (by rw [HL]) (by decide)) (HKK.out _ v1 (HS.out _ (Kp.trans hkp hbx)) hbx ?_ (fun _ _ _ => trivial))
   show Vq (ι (1000000)) _ _
   exact ⟨A1, k1, c1, B1, j1, d1, rfl, hk9, hj9, hW9, hX9⟩
  refine lt_split (n := 50) ?_ ?_
  rotate_left
  ·intro f w' K hS hn hK
   have HN := Lib.hid hn
   have HKK := Lib.hid hK
   have hkp := hS.2
   have hS0 := Lib.hid hS
   clear hn hK hS
   have eg := (show Vis (Value.bool true) (f 43) w' from HN.out 43 (List.mem_of_elem_eq_true (by kernel_rfl)))
   refine wpOp_step rfl (fun K' hK' => ?_)
   rw [if_pos (wn1 rfl (yd (t := 90) rfl (by rw [HL]) (by decide) eg))]
   have HK := Lib.hid hK'
   clear hK' eg
   have x4 := (mkL_fix (n := 117) (f := f) p4)
   go_simp
   refine fin_step HK.out (mkL_put (t := 97) (by rw [HL]) (by decide)) (HKK.out (Value.func (Fn.func 20) #[] #[]) w' hS0.out (Kp.refl w') ?_ (fun _ _ _ => trivial))
   show Vis (Value.func (Fn.func 20) #[] #[]) (Value.func (Fn.func 20) #[] #[]) w'
   exact rfl
  refine lt_split (n := 49) ?_ ?_
  rotate_left
  ·intro f w' K hS hn hK
   have HN := Lib.hid hn
   have HKK := Lib.hid hK
   have hkp := hS.2
   have hS0 := Lib.hid hS
   clear hn hK hS
   have eg := (show Vis (Value.bool true) (f 43) w' from HN.out 43 (List.mem_of_elem_eq_true (by kernel_rfl)))
   obtain ⟨A48, k48, c48, B48, l48, d48, e48, r48⟩ := (show Vq (ι (1000000)) (f 48) w' from HN.out 48 (List.mem_of_elem_eq_true (by kernel_rfl)))
   refine wpOp_step rfl (fun K' hK' => ?_)
   rw [if_pos (wn1 rfl (yd (t := 90) rfl (by rw [HL]) (by decide) eg))]
   have HK := Lib.hid hK'
   clear hK' eg
   have x95 := (mkL_get (n := 117) (f := f) (t := 95) (i := 48) (by rw [HL]) (by decide)).trans (congrArg some e48)
   have E48 := Lib.hid e48
   clear e48
   go_simp
   have ka := (Kp.refl w').alloc (.cells #[.bool (decide ((ι (1000000)).num < 0)), .slice A48 k48 c48, .bool false, .slice B48 l48 d48] 31)
   refine fin_step HK.out (mkL_put (t := 96) (by rw [HL]) (by decide)) (HKK.out _ _ (HS.out _ (Kp.trans hkp ka)) ka ?_ (fun _ _ _ => trivial))
   show VQ 1 [ι (1000000)] _ _
   exact ⟨_, rfl, (QsAt.lit1 (Blk.new _ _ _) (r48.below ka) rfl)⟩
  refine lt_split (n := 48) ?_ ?_
  rotate_left
  ·intro f w' K hS hn hK
   have HN := Lib.hid hn
   have HKK := Lib.hid hK
   have hkp := hS.2
   have hS0 := Lib.hid hS
   clear hn hK hS
   have eg := (show Vis (Value.bool true) (f 43) w' from HN.out 43 (List.mem_of_elem_eq_true (by kernel_rfl)))
   have e47 := (show Vis (Value.func (Fn.func 20) #[] #[]) (f 47) w' from HN.out 47 (List.mem_of_elem_eq_true (by kernel_rfl)))
   refine wpOp_step rfl (fun K' hK' => ?_)
   rw [if_pos (wn1 rfl (yd (t := 90) rfl (by rw [HL]) (by decide) eg))]
   have HK := Lib.hid hK'
   clear hK' eg
   have x94 := (mkL_get (n := 117) (f := f) (t := 94) (i := 47) (by rw [HL]) (by decide)).trans (congrArg some e47)
   have E47 := Lib.hid e47
   clear e47
   go_simp
   refine (TW.out (1000000) (by decide) _).mono ?_
   rintro e v1 ⟨A1, k1, c1, B1, j1, d1, rfl, hk9, hj9, hW9, hX9, -, -, hbx⟩
   (try (go_wp2_with fail))
   refine fin_step HK.out (mkL_put (t := 95) (by rw [HL]) (by decide)) (HKK.out _ v1 (HS.out _ (Kp.trans hkp hbx)) hbx ?_ (fun _ _ _ => trivial))
   show Vq (ι (1000000)) _ _
   exact ⟨A1, k1, c1, B1, j1, d1, rfl, hk9, hj9, hW9, hX9⟩
  refine lt_split (n := 47) ?_ ?_
  rotate_left
  ·intro f w' K hS hn hK
   have HN := Lib.hid hn
   have HKK := Lib.hid hK
   have hkp := hS.2
   have hS0 := Lib.hid hS
   clear hn hK hS
   have eg := (show Vis (Value.bool true) (f 43) w' from HN.out 43 (List.mem_of_elem_eq_true (by kernel_rfl)))
   refine wpOp_step rfl (fun K' hK' => ?_)
   rw [if_pos (wn1 rfl (yd (t := 90) rfl (by rw [HL]) (by decide) eg))]
   have HK := Lib.hid hK'
   clear hK' eg
   have x4 := (mkL_fix (n := 117) (f := f) p4)
   go_simp
   refine fin_step HK.out (mkL_put (t := 94) (by rw [HL]) (by decide)) (HKK.out (Value.func (Fn.func 20) #[] #[]) w' hS0.out (Kp.refl w') ?_ (fun _ _ _ => trivial))
   show Vis (Value.func (Fn.func 20) #[] #[]) (Value.func (Fn.func 20) #[] #[]) w'
   exact rfl
  refine lt_split (n := 46) ?_ ?_
  rotate_left
  ·intro f w' K hS hn hK
   have HN := Lib.hid hn
   have HKK := Lib.hid hK
   have hkp := hS.2
   have hS0 := Lib.hid hS
   clear hn hK hS
   have eg := (show Vis (Value.bool true) (f 43) w' from HN.out 43 (List.mem_of_elem_eq_true (by kernel_rfl)))
   have e45 := (show Vis (Value.slice (some ⟨gb, 0, none⟩) 3 3) (f 45) w' from HN.out 45 (List.mem_of_elem_eq_true (by kernel_rfl)))
   refine wpOp_step rfl (fun K' hK' => ?_)
   rw [if_pos (wn1 rfl (yd (t := 90) rfl (by rw [HL]) (by decide) eg))]
   have HK := Lib.hid hK'
   clear hK' eg
   have x92 := (mkL_get (n := 117) (f := f) (t := 92) (i := 45) (by rw [HL]) (by decide)).trans (congrArg some e45)
   have E45 := Lib.hid e45
   clear e45
   go_simp
   refine fin_step HK.out (mkL_put (t := 93) (by rw [HL]) (by decide)) (HKK.out (Value.slice (some ⟨gb, 0, none⟩) 1 3) w' hS0.out (Kp.refl w') ?_ (fun _ _ _ => trivial))
   show Vis (Value.slice (some ⟨gb, 0, none⟩) 1 3) (Value.slice (some ⟨gb, 0, none⟩) 1 3) w'
   exact rfl
  refine lt_split (n := 45) ?_ ?_
  rotate_left
  ·intro f w' K hS hn hK
   have HN := Lib.hid hn
   have HKK := Lib.hid hK
   have hkp := hS.2
   have hS0 := Lib.hid hS
   clear hn hK hS
   have eg := (show Vis (Value.bool true) (f 43) w' from HN.out 43 (List.mem_of_elem_eq_true (by kernel_rfl)))
   refine wpOp_step rfl (fun K' hK' => ?_)
   rw [if_pos (wn1 rfl (yd (t := 90) rfl (by rw [HL]) (by decide) eg))]
   have HK := Lib.hid hK'
   clear hK' eg
   have x2 := (mkL_fix (n := 117) (f := f) p2)
   go_simp
   refine fin_step HK.out (mkL_put (t := 92) (by rw [HL]) (by decide)) (HKK.out (Value.slice (some ⟨gb, 0, none⟩) 3 3) w' hS0.out (Kp.refl w') ?_ (fun _ _ _ => trivial))
   show Vis (Value.slice (some ⟨gb, 0, none⟩) 3 3) (Value.slice (some ⟨gb, 0, none⟩) 3 3) w'
   exact rfl
  refine lt_split (n := 44) ?_ ?_
  rotate_left
  ·intro f w' K hS hn hK
   have HN := Lib.hid hn
   have HKK := Lib.hid hK
   have hkp := hS.2
   have hS0 := Lib.hid hS
   clear hn hK hS
   have eg := (show Vis (Value.bool true) (f 43) w' from HN.out 43 (List.mem_of_elem_eq_true (by kernel_rfl)))
   refine wpOp_step rfl (fun K' hK' => ?_)
   rw [if_pos (wn1 rfl (yd (t := 90) rfl (by rw [HL]) (by decide) eg))]
   have HK := Lib.hid hK'
   clear hK' eg
   have x10 := (mkL_fix (n := 117) (f := f) p10)
   go_simp
   refine fin_step HK.out (mkL_put (t := 91) (by rw [HL]) (by decide)) (HKK.out (Value.slice (some ⟨gg, 0, none⟩) 1 1) w' hS0.out (Kp.refl w') ?_ (fun _ _ _ => trivial))
   show Vis (Value.slice (some ⟨gg, 0, none⟩) 1 1) (Value.slice (some ⟨gg, 0, none⟩) 1 1) w'
   exact rfl
  refine lt_split (n := 43) ?_ ?_
  rotate_left
  ·intro f w' K hS hn hK
   have HN := Lib.hid hn
   have HKK := Lib.hid hK
   have hkp := hS.2
   have hS0 := Lib.hid hS
   clear hn hK hS
   have e42 := (show Vis (Value.bool true) (f 42) w' from HN.out 42 (List.mem_of_elem_eq_true (by kernel_rfl)))
   refine wpOp_step rfl (fun K' hK' => ?_)
   rw [if_pos (wn0 rfl)]
   have HK := Lib.hid hK'
   clear hK'
   have x89 := (mkL_get (n := 117) (f := f) (t := 89) (i := 42) (by rw [HL]) (by decide)).trans (congrArg some e42)
   have E42 := Lib.hid e42
   clear e42
   go_simp
   refine fin_step HK.out (mkL_put (t := 90) (by rw [HL]) (by decide)) (HKK.out (Value.bool true) w' hS0.out (Kp.refl w') ?_ (fun _ _ _ => trivial))
   show Vis (Value.bool true) (Value.bool true) w'
   exact rfl
  refine lt_split (n := 42) ?_ ?_
  rotate_left
  ·intro f w' K hS hn hK
   have HN := Lib.hid hn
   have HKK := Lib.hid hK
   have hkp := hS.2
   have hS0 := Lib.hid hS
   clear hn hK hS
   have e31 := (show Vis (Value.bool true) (f 31) w' from HN.out 31 (List.mem_of_elem_eq_true (by kernel_rfl)))
   have e41 := (show Vis (Value.bool true) (f 41) w' from HN.out 41 (List.mem_of_elem_eq_true (by kernel_rfl)))
   refine wpOp_step rfl (fun K' hK' => ?_)
   rw [if_pos (wn0 rfl)]
   have HK := Lib.hid hK'
   clear hK'
   have x78 := (mkL_get (n := 117) (f := f) (t := 78) (i := 31) (by rw [HL]) (by decide)).trans (congrArg some e31)
   have x88 := (mkL_get (n := 117) (f := f) (t := 88) (i := 41) (by rw [HL]) (by decide)).trans (congrArg some e41)
   have E31 := Lib.hid e31
   clear e31
   have E41 := Lib.hid e41
   clear e41
   go_simp
   refine fin_step HK.out (mkL_put (t := 89) (by rw [HL]) (by decide)) (HKK.out (Value.bool true) w' hS0.out (Kp.refl w') ?_ (fun _ _ _ => trivial))
   show Vis (Value.bool true) (Value.bool true) w'
   exact rfl
  refine lt_split (n := 41) ?_ ?_
  rotate_left
  ·intro f w' K hS hn hK
   have HN := Lib.hid hn
   have HKK := Lib.hid hK
   have hkp := hS.2
   have hS0 := Lib.hid hS
   clear hn hK hS
   have eg := (show Vis (Value.bool true) (f 31) w' from HN.out 31 (List.mem_of_elem_eq_true (by kernel_rfl)))
   have e32 := (show Vis (Value.slice (some ⟨gg, 0, none⟩) 1 1) (f 32) w' from HN.out 32 (List.mem_of_elem_eq_true (by kernel_rfl)))
   have e34 := (show Vis (Value.slice (some ⟨gb, 0, none⟩) 1 3) (f 34) w' from HN.out 34 (List.mem_of_elem_eq_true (by kernel_rfl)))
   obtain ⟨g36, e36, r36⟩ := (show VQ 1 [0] (f 36) w' from HN.out 36 (List.mem_of_elem_eq_true (by kernel_rfl)))
   have e37 := (show Vis (Value.agg #[Value.bool false, Value.slice none 0 0, Value.bool false, Value.slice none 0 0]) (f 37) w' from HN.out 37 (List.mem_of_elem_eq_true (by kernel_rfl)))
   obtain ⟨g40, e40, r40⟩ := (show VQ 1 [ι (1000000)] (f 40) w' from HN.out 40 (List.mem_of_elem_eq_true (by kernel_rfl)))
   refine wpOp_step rfl (fun K' hK' => ?_)
   rw [if_pos (wn1 rfl (yd (t := 78) rfl (by rw [HL]) (by decide) eg))]
   have HK := Lib.hid hK'
   clear hK' eg
   have x79 := (mkL_get (n := 117) (f := f) (t := 79) (i := 32) (by rw [HL]) (by decide)).trans (congrArg some e32)
   have x81 := (mkL_get (n := 117) (f := f) (t := 81) (i := 34) (by rw [HL]) (by decide)).trans (congrArg some e34)
   have x83 := (mkL_get (n := 117) (f := f) (t := 83) (i := 36) (by rw [HL]) (by decide)).trans (congrArg some e36)
   have x84 := (mkL_get (n := 117) (f := f) (t := 84) (i := 37) (by rw [HL]) (by decide)).trans (congrArg some e37)
   have x87 := (mkL_get (n := 117) (f := f) (t := 87) (i := 40) (by rw [HL]) (by decide)).trans (congrArg some e40)
   have E32 := Lib.hid e32
   clear e32
   have E34 := Lib.hid e34
   clear e34
   have E36 := Lib.hid e36
   clear e36
   have E37 := Lib.hid e37
   clear e37
   have E40 := Lib.hid e40
   clear e40
   go_simp
   refine (fills_yes _ _ _ _ _ _ 1 _ 1 _ 1 _ _ _ _ _ _ exGreat [true] [((0 : Int) : Rat)] _ _ _ _ _ _ (HU.out.2.2.2.2.2.2.1.below hkp) ((HU.out.2.1.below hkp).front (k := 1) (by decide)) (gs_onez r36) (by decide) (by decide) (by decide) cx4 fx4 (by have h := r40; (try simp only [HI.out] at h); exact h) (rq_zero _) (by decide)).mono ?_
   rintro e v1 ⟨rfl, hbx⟩
   (try (go_wp2_with fail))
   refine fin_step HK.out (mkL_put (t := 88) (by rw [HL]) (by decide)) (HKK.out _ v1 (HS.out _ (Kp.trans hkp hbx)) hbx ?_ (fun _ _ _ => trivial))
   show Vis (Value.bool true) _ v1
   exact rfl
  refine lt_split (n := 40) ?_ ?_
  rotate_left
  ·intro f w' K hS hn hK
   have HN := Lib.hid hn
   have HKK := Lib.hid hK
   have hkp := hS.2
   have hS0 := Lib.hid hS
   clear hn hK hS
   have eg := (show Vis (Value.bool true) (f 31) w' from HN.out 31 (List.mem_of_elem_eq_true (by kernel_rfl)))
   obtain ⟨A39, k39, c39, B39, l39, d39, e39, r39⟩ := (show Vq (ι (1000000)) (f 39) w' from HN.out 39 (List.mem_of_elem_eq_true (by kernel_rfl)))
   refine wpOp_step rfl (fun K' hK' => ?_)
   rw [if_pos (wn1 rfl (yd (t := 78) rfl (by rw [HL]) (by decide) eg))]
   have HK := Lib.hid hK'
   clear hK' eg
   have x86 := (mkL_get (n := 117) (f := f) (t := 86) (i := 39) (by rw [HL]) (by decide)).trans (congrArg some e39)
   have E39 := Lib.hid e39
   clear e39
   go_simp
   have ka := (Kp.refl w').alloc (.cells #[.bool (decide ((ι (1000000)).num < 0)), .slice A39 k39 c39, .bool false, .slice B39 l39 d39] 31)
   refine fin_step HK.out (mkL_put (t := 87) (by rw [HL]) (by decide)) (HKK.out _ _ (HS.out _ (Kp.trans hkp ka)) ka ?_ (fun _ _ _ => trivial))
   show VQ 1 [ι (1000000)] _ _
   exact ⟨_, rfl, (QsAt.lit1 (Blk.new _ _ _) (r39.below ka) rfl)⟩
  refine lt_split (n := 39) ?_ ?_
  rotate_left
  ·intro f w' K hS hn hK
   have HN := Lib.hid hn
   have HKK := Lib.hid hK
   have hkp := hS.2
   have hS0 := Lib.hid hS
   clear hn hK hS
   have eg := (show Vis (Value.bool true) (f 31) w' from HN.out 31 (List.mem_of_elem_eq_true (by kernel_rfl)))
   have e38 := (show Vis (Value.func (Fn.func 20) #[] #[]) (f 38) w' from HN.out 38 (List.mem_of_elem_eq_true (by kernel_rfl)))
   refine wpOp_step rfl (fun K' hK' => ?_)
   rw [if_pos (wn1 rfl (yd (t := 78) rfl (by rw [HL]) (by decide) eg))]
   have HK := Lib.hid hK'
   clear hK' eg
   have x85 := (mkL_get (n := 117) (f := f) (t := 85) (i := 38) (by rw [HL]) (by decide)).trans (congrArg some e38)
   have E38 := Lib.hid e38
   clear e38
   go_simp
   refine (TW.out (1000000) (by decide) _).mono ?_
   rintro e v1 ⟨A1, k1, c1, B1, j1, d1, rfl, hk9, hj9, hW9, hX9, -, -, hbx⟩
   (try (go_wp2_with fail))
   refine fin_step HK.out (mkL_put (t := 86) (by rw [HL]) (by decide)) (HKK.out _ v1 (HS.out _ (Kp.trans hkp hbx)) hbx ?_ (fun _ _ _ => trivial))
   show Vq (ι (1000000)) _ _
   exact ⟨A1, k1, c1, B1, j1, d1, rfl, hk9, hj9, hW9, hX9⟩
  refine lt_split (n := 38) ?_ ?_
  rotate_left
  ·intro f w' K hS hn hK
   have HN := Lib.hid hn
   have HKK := Lib.hid hK
   have hkp := hS.2
   have hS0 := Lib.hid hS
   clear hn hK hS
   have eg := (show Vis (Value.bool true) (f 31) w' from HN.out 31 (List.mem_of_elem_eq_true (by kernel_rfl)))
   refine wpOp_step rfl (fun K' hK' => ?_)
   rw [if_pos (wn1 rfl (yd (t := 78) rfl (by rw [HL]) (by decide) eg))]
   have HK := Lib.hid hK'
   clear hK' eg
   have x4 := (mkL_fix (n := 117) (f := f) p4)
   go_simp
   refine fin_step HK.out (mkL_put (t := 85) (by rw [HL]) (by decide)) (HKK.out (Value.func (Fn.func 20) #[] #[]) w' hS0.out (Kp.refl w') ?_ (fun _ _ _ => trivial))
   show Vis (Value.func (Fn.func 20) #[] #[]) (Value.func (Fn.func 20) #[] #[]) w'
   exact rfl
  refine lt_split (n := 37) ?_ ?_
  rotate_left
  ·intro f w' K hS hn hK
   have HN := Lib.hid hn
   have HKK := Lib.hid hK
   have hkp := hS.2
   have hS0 := Lib.hid hS
   clear hn hK hS
   have eg := (show Vis (Value.bool true) (f 31) w' from HN.out 31 (List.mem_of_elem_eq_true (by kernel_rfl)))
   refine wpOp_step rfl (fun K' hK' => ?_)
   rw [if_pos (wn1 rfl (yd (t := 78) rfl (by rw [HL]) (by decide) eg))]
   have HK := Lib.hid hK'
   clear hK' eg
   have x5 := (mkL_fix (n := 117) (f := f) p5)
   obtain ⟨⟨a0, a1, a2, a3, a4, a5, a6, a7, a8, a9, a10, a11, a12, a13, a14, a15, a16⟩, -⟩ := hS0.out
   go_simp
   refine fin_step HK.out (mkL_put (t := 84) (by rw [HL]) (by decide)) (HKK.out (Value.agg #[Value.bool false, Value.slice none 0 0, Value.bool false, Value.slice none 0 0]) w' hS0.out (Kp.refl w') ?_ (fun _ _ _ => trivial))
   show Vis (Value.agg #[Value.bool false, Value.slice none 0 0, Value.bool false, Value.slice none 0 0]) (Value.agg #[Value.bool false, Value.slice none 0 0, Value.bool false, Value.slice none 0 0]) w'
   exact rfl
  refine lt_split (n := 36) ?_ ?_
  rotate_left
  ·intro f w' K hS hn hK
   have HN := Lib.hid hn
   have HKK := Lib.hid hK
   have hkp := hS.2
   have hS0 := Lib.hid hS
   clear hn hK hS
   have eg := (show Vis (Value.bool true) (f 31) w' from HN.out 31 (List.mem_of_elem_eq_true (by kernel_rfl)))
   have e35 := (show Vis (Value.agg #[Value.bool false, Value.slice none 0 0, Value.bool false, Value.slice none 0 0]) (f 35) w' from HN.out 35 (List.mem_of_elem_eq_true (by kernel_rfl)))
   refine wpOp_step rfl (fun K' hK' => ?_)
   rw [if_pos (wn1 rfl (yd (t := 78) rfl (by rw [HL]) (by decide) eg))]
   have HK := Lib.hid hK'
   clear hK' eg
   have x82 := (mkL_get (n := 117) (f := f) (t := 82) (i := 35) (by rw [HL]) (by decide)).trans (congrArg some e35)
   have E35 := Lib.hid e35
   clear e35
   go_simp
   have ka := (Kp.refl w').alloc (.cells #[.bool false, .slice none 0 0, .bool false, .slice none 0 0] 31)
   refine fin_step HK.out (mkL_put (t := 83) (by rw [HL]) (by decide)) (HKK.out _ _ (HS.out _ (Kp.trans hkp ka)) ka ?_ (fun _ _ _ => trivial))
   show VQ 1 [0] _ _
   exact ⟨_, rfl, (QsAt.lit1 (Blk.new _ _ _) (rq_zero _) rfl)⟩
  refine lt_split (n := 35) ?_ ?_
  rotate_left
  ·intro f w' K hS hn hK
   have HN := Lib.hid hn
   have HKK := Lib.hid hK
   have hkp := hS.2
   have hS0 := Lib.hid hS
   clear hn hK hS
   have eg := (show Vis (Value.bool true) (f 31) w' from HN.out 31 (List.mem_of_elem_eq_true (by kernel_rfl)))
   refine wpOp_step rfl (fun K' hK' => ?_)
   rw [if_pos (wn1 rfl (yd (t := 78) rfl (by rw [HL]) (by decide) eg))]
   have HK := Lib.hid hK'
   clear hK' eg
   have x5 := (mkL_fix (n := 117) (f := f) p5)
   obtain ⟨⟨a0, a1, a2, a3, a4, a5, a6, a7, a8, a9, a10, a11, a12, a13, a14, a15, a16⟩, -⟩ := hS0.out
   go_simp
   refine fin_step HK.out (mkL_put (t := 82) (by rw [HL]) (by decide)) (HKK.out (Value.agg #[Value.bool false, Value.slice none 0 0, Value.bool false, Value.slice none 0 0]) w' hS0.out (Kp.refl w') ?_ (fun _ _ _ => trivial))
   show Vis (Value.agg #[Value.bool false, Value.slice none 0 0, Value.bool false, Value.slice none 0 0]) (Value.agg #[Value.bool false, Value.slice none 0 0, Value.bool false, Value.slice none 0 0]) w'
   exact rfl
  refine lt_split (n := 34) ?_ ?_
  rotate_left
  ·intro f w' K hS hn hK
   have HN := Lib.hid hn
   have HKK := Lib.hid hK
   have hkp := hS.2
   have hS0 := Lib.hid hS
   clear hn hK hS
   have eg := (show Vis (Value.bool true) (f 31) w' from HN.out 31 (List.mem_of_elem_eq_true (by kernel_rfl)))
   have e33 := (show Vis (Value.slice (some ⟨gb, 0, none⟩) 3 3) (f 33) w' from HN.out 33 (List.mem_of_elem_eq_true (by kernel_rfl)))
   refine wpOp_step rfl (fun K' hK' => ?_)
   rw [if_pos (wn1 rfl (yd (t := 78) rfl (by rw [HL]) (by decide) eg))]
   have HK := Lib.hid hK'
   clear hK' eg
   have x80 := (mkL_get (n := 117) (f := f) (t := 80) (i := 33) (by rw [HL]) (by decide)).trans (congrArg some e33)
   have E33 := Lib.hid e33
   clear e33
   go_simp
   refine fin_step HK.out (mkL_put (t := 81) (by rw [HL]) (by decide)) (HKK.out (Value.slice (some ⟨gb, 0, none⟩) 1 3) w' hS0.out (Kp.refl w') ?_ (fun _ _ _ => trivial))
   show Vis (Value.slice (some ⟨gb, 0, none⟩) 1 3) (Value.slice (some ⟨gb, 0, none⟩) 1 3) w'
   exact rfl
  refine lt_split (n := 33) ?_ ?_
  rotate_left
  ·intro f w' K hS hn hK
   have HN := Lib.hid hn
   have HKK := Lib.hid hK
   have hkp := hS.2
   have hS0 := Lib.hid hS
   clear hn hK hS
   have eg := (show Vis (Value.bool true) (f 31) w' from HN.out 31 (List.mem_of_elem_eq_true (by kernel_rfl)))
   refine wpOp_step rfl (fun K' hK' => ?_)
   rw [if_pos (wn1 rfl (yd (t := 78) rfl (by rw [HL]) (by decide) eg))]
   have HK := Lib.hid hK'
   clear hK' eg
   have x2 := (mkL_fix (n := 117) (f := f) p2)
   go_simp
   refine fin_step HK.out (mkL_put (t := 80) (by rw [HL]) (by decide)) (HKK.out (Value.slice (some ⟨gb, 0, none⟩) 3 3) w' hS0.out (Kp.refl w') ?_ (fun _ _ _ => trivial))
   show Vis (Value.slice (some ⟨gb, 0, none⟩) 3 3) (Value.slice (some ⟨gb, 0, none⟩) 3 3) w'
   exact rfl
  refine lt_split (n := 32) ?_ ?_
  rotate_left
  ·intro f w' K hS hn hK
   have HN := Lib.hid hn
   have HKK := Lib.hid hK
   have hkp := hS.2
   have hS0 := Lib.hid hS
   clear hn hK hS
   have eg := (show Vis (Value.bool true) (f 31) w' from HN.out 31 (List.mem_of_elem_eq_true (by kernel_rfl)))
   refine wpOp_step rfl (fun K' hK' => ?_)
   rw [if_pos (wn1 rfl (yd (t := 78) rfl (by rw [HL]) (by decide) eg))]
   have HK := Lib.hid hK'
   clear hK' eg
   have x10 := (mkL_fix (n := 117) (f := f) p10)
   go_simp
   refine fin_step HK.out (mkL_put (t := 79) (by rw [HL]) (by decide)) (HKK.out (Value.slice (some ⟨gg, 0, none⟩) 1 1) w' hS0.out (Kp.refl w') ?_ (fun _ _ _ => trivial))
   show Vis (Value.slice (some ⟨gg, 0, none⟩) 1 1) (Value.slice (some ⟨gg, 0, none⟩) 1 1) w'
   exact rfl
  refine lt_split (n := 31) ?_ ?_
  rotate_left
  ·intro f w' K hS hn hK
   have HN := Lib.hid hn
   have HKK := Lib.hid hK
   have hkp := hS.2
   have hS0 := Lib.hid hS
   clear hn hK hS
   have e30 := (show Vis (Value.bool true) (f 30) w' from HN.out 30 (List.mem_of_elem_eq_true (by kernel_rfl)))
   refine wpOp_step rfl (fun K' hK' => ?_)
   rw [if_pos (wn0 rfl)]
   have HK := Lib.hid hK'
   clear hK'
   have x77 := (mkL_get (n := 117) (f := f) (t := 77) (i := 30) (by rw [HL]) (by decide)).trans (congrArg some e30)
   have E30 := Lib.hid e30
   clear e30
   go_simp
   refine fin_step HK.out (mkL_put (t := 78) (by rw [HL]) (by decide)) (HKK.out (Value.bool true) w' hS0.out (Kp.refl w') ?_ (fun _ _ _ => trivial))
   show Vis (Value.bool true) (Value.bool true) w'
   exact rfl
  refine lt_split (n := 30) ?_ ?_
  rotate_left
  ·intro f w' K hS hn hK
   have HN := Lib.hid hn
   have HKK := Lib.hid hK
   have hkp := hS.2
   have hS0 := Lib.hid hS
   clear hn hK hS
   have e26 := (show Vis (Value.bool true) (f 26) w' from HN.out 26 (List.mem_of_elem_eq_true (by kernel_rfl)))
   have e29 := (show Vis (Value.bool true) (f 29) w' from HN.out 29 (List.mem_of_elem_eq_true (by kernel_rfl)))
   refine wpOp_step rfl (fun K' hK' => ?_)
   rw [if_pos (wn0 rfl)]
   have HK := Lib.hid hK'
   clear hK'
   have x73 := (mkL_get (n := 117) (f := f) (t := 73) (i := 26) (by rw [HL]) (by decide)).trans (congrArg some e26)
   have x76 := (mkL_get (n := 117) (f := f) (t := 76) (i := 29) (by rw [HL]) (by decide)).trans (congrArg some e29)
   have E26 := Lib.hid e26
   clear e26
   have E29 := Lib.hid e29
   clear e29
   go_simp
   refine fin_step HK.out (mkL_put (t := 77) (by rw [HL]) (by decide)) (HKK.out (Value.bool true) w' hS0.out (Kp.refl w') ?_ (fun _ _ _ => trivial))
   show Vis (Value.bool true) (Value.bool true) w'
   exact rfl
  refine lt_split (n := 29) ?_ ?_
  rotate_left
  ·intro f w' K hS hn hK
   have HN := Lib.hid hn
   have HKK := Lib.hid hK
   have hkp := hS.2
   have hS0 := Lib.hid hS
   clear hn hK hS
   have eg := (show Vis (Value.bool true) (f 26) w' from HN.out 26 (List.mem_of_elem_eq_true (by kernel_rfl)))
   obtain ⟨A28, k28, c28, B28, l28, d28, e28, r28⟩ := (show Vq (ι (3)) (f 28) w' from HN.out 28 (List.mem_of_elem_eq_true (by kernel_rfl)))
   refine wpOp_step rfl (fun K' hK' => ?_)
   rw [if_pos (wn1 rfl (yd (t := 73) rfl (by rw [HL]) (by decide) eg))]
   have HK := Lib.hid hK'
   clear hK' eg
   have x75 := (mkL_get (n := 117) (f := f) (t := 75) (i := 28) (by rw [HL]) (by decide)).trans (congrArg some e28)
   have E28 := Lib.hid e28
   clear e28
   go_simp
   refine (fills_yes _ _ _ _ _ _ 0 _ 0 _ 0 _ _ _ _ _ _ [] [] [] _ _ _ _ _ _ (UsAt.none _) (BsAt.none _) (GsAt.none _ _) (by decide) (by decide) (by decide) cx3 fx3 ⟨rfl, fun h => absurd rfl h⟩ (by have h := r28; rw [HI.out] at h; exact h) (by rw [HI.out])).mono ?_
   rintro e v1 ⟨rfl, hbx⟩
   (try (go_wp2_with fail))
   refine fin_step HK.out (mkL_put (t := 76) (by rw [HL]) (by decide)) (HKK.out _ v1 (HS.out _ (Kp.trans hkp hbx)) hbx ?_ (fun _ _ _ => trivial))
   show Vis (Value.bool true) _ v1
   exact rfl
  refine lt_split (n := 28) ?_ ?_
  rotate_left
  ·intro f w' K hS hn hK
   have HN := Lib.hid hn
   have HKK := Lib.hid hK
   have hkp := hS.2
   have hS0 := Lib.hid hS
   clear hn hK hS
   have eg := (show Vis (Value.bool true) (f 26) w' from HN.out 26 (List.mem_of_elem_eq_true (by kernel_rfl)))
   have e27 := (show Vis (Value.func (Fn.func 20) #[] #[]) (f 27) w' from HN.out 27 (List.mem_of_elem_eq_true (by kernel_rfl)))
   refine wpOp_step rfl (fun K' hK' => ?_)
   rw [if_pos (wn1 rfl (yd (t := 73) rfl (by rw [HL]) (by decide) eg))]
   have HK := Lib.hid hK'
   clear hK' eg
   have x74 := (mkL_get (n := 117) (f := f) (t := 74) (i := 27) (by rw [HL]) (by decide)).trans (congrArg some e27)
   have E27 := Lib.hid e27
   clear e27
   go_simp
   refine (TW.out (3) (by decide) _).mono ?_
   rintro e v1 ⟨A1, k1, c1, B1, j1, d1, rfl, hk9, hj9, hW9, hX9, -, -, hbx⟩
   (try (go_wp2_with fail))
   refine fin_step HK.out (mkL_put (t := 75) (by rw [HL]) (by decide)) (HKK.out _ v1 (HS.out _ (Kp.trans hkp hbx)) hbx ?_ (fun _ _ _ => trivial))
   show Vq (ι (3)) _ _
   exact ⟨A1, k1, c1, B1, j1, d1, rfl, hk9, hj9, hW9, hX9⟩
  refine lt_split (n := 27) ?_ ?_
  rotate_left
  ·intro f w' K hS hn hK
   have HN := Lib.hid hn
   have HKK := Lib.hid hK
   have hkp := hS.2
   have hS0 := Lib.hid hS
   clear hn hK hS
   have eg := (show Vis (Value.bool true) (f 26) w' from HN.out 26 (List.mem_of_elem_eq_true (by kernel_rfl)))
   refine wpOp_step rfl (fun K' hK' => ?_)
   rw [if_pos (wn1 rfl (yd (t := 73) rfl (by rw [HL]) (by decide) eg))]
   have HK := Lib.hid hK'
   clear hK' eg
   have x4 := (mkL_fix (n := 117) (f := f) p4)
   go_simp
   refine fin_step HK.out (mkL_put (t := 74) (by rw [HL]) (by decide)) (HKK.out (Value.func (Fn.func 20) #[] #[]) w' hS0.out (Kp.refl w') ?_ (fun _ _ _ => trivial))
   show Vis (Value.func (Fn.func 20) #[] #[]) (Value.func (Fn.func 20) #[] #[]) w'
   exact rfl
  refine lt_split (n := 26) ?_ ?_
  rotate_left
  ·intro f w' K hS hn hK
   have HN := Lib.hid hn
   have HKK := Lib.hid hK
   have hkp := hS.2
   have hS0 := Lib.hid hS
   clear hn hK hS
   have e25 := (show Vis (Value.bool true) (f 25) w' from HN.out 25 (List.mem_of_elem_eq_true (by kernel_rfl)))
   refine wpOp_step rfl (fun K' hK' => ?_)
   rw [if_pos (wn0 rfl)]
   have HK := Lib.hid hK'
   clear hK'
   have x72 := (mkL_get (n := 117) (f := f) (t := 72) (i := 25) (by rw [HL]) (by decide)).trans (congrArg some e25)
   have E25 := Lib.hid e25
   clear e25
   go_simp
   refine fin_step HK.out (mkL_put (t := 73) (by rw [HL]) (by decide)) (HKK.out (Value.bool true) w' hS0.out (Kp.refl w') ?_ (fun _ _ _ => trivial))
   show Vis (Value.bool true) (Value.bool true) w'
   exact rfl
  refine lt_split (n := 25) ?_ ?_
  rotate_left
  ·intro f w' K hS hn hK
   have HN := Lib.hid hn
   have HKK := Lib.hid hK
   have hkp := hS.2
   have hS0 := Lib.hid hS
   clear hn hK hS
   have e11 := (show Vis (Value.bool true) (f 11) w' from HN.out 11 (List.mem_of_elem_eq_true (by kernel_rfl)))
   have e24 := (show Vis (Value.bool true) (f 24) w' from HN.out 24 (List.mem_of_elem_eq_true (by kernel_rfl)))
   refine wpOp_step rfl (fun K' hK' => ?_)
   rw [if_pos (wn0 rfl)]
   have HK := Lib.hid hK'
   clear hK'
   have x58 := (mkL_get (n := 117) (f := f) (t := 58) (i := 11) (by rw [HL]) (by decide)).trans (congrArg some e11)
   have x71 := (mkL_get (n := 117) (f := f) (t := 71) (i := 24) (by rw [HL]) (by decide)).trans (congrArg some e24)
   have E11 := Lib.hid e11
   clear e11
   have E24 := Lib.hid e24
   clear e24
   go_simp
   refine fin_step HK.out (mkL_put (t := 72) (by rw [HL]) (by decide)) (HKK.out (Value.bool true) w' hS0.out (Kp.refl w') ?_ (fun _ _ _ => trivial))
   show Vis (Value.bool true) (Value.bool true) w'
   exact rfl
  refine lt_split (n := 24) ?_ ?_
  rotate_left
  ·intro f w' K hS hn hK
   have HN := Lib.hid hn
   have HKK := Lib.hid hK
   have hkp := hS.2
   have hS0 := Lib.hid hS
   clear hn hK hS
   have eg := (show Vis (Value.bool true) (f 11) w' from HN.out 11 (List.mem_of_elem_eq_true (by kernel_rfl)))
   have e12 := (show Vis (Value.slice (some ⟨gu, 0, none⟩) 3 3) (f 12) w' from HN.out 12 (List.mem_of_elem_eq_true (by kernel_rfl)))
   have e13 := (show Vis (Value.slice (some ⟨go, 0, none⟩) 3 3) (f 13) w' from HN.out 13 (List.mem_of_elem_eq_true (by kernel_rfl)))
   obtain ⟨g18, e18, r18⟩ := (show VG 3 exQn (f 18) w' from HN.out 18 (List.mem_of_elem_eq_true (by kernel_rfl)))
   have e19 := (show Vis (Value.agg #[Value.bool false, Value.slice none 0 0, Value.bool false, Value.slice none 0 0]) (f 19) w' from HN.out 19 (List.mem_of_elem_eq_true (by kernel_rfl)))
   obtain ⟨g23, e23, r23⟩ := (show VQ 3 [0, 0, 0] (f 23) w' from HN.out 23 (List.mem_of_elem_eq_true (by kernel_rfl)))
   refine wpOp_step rfl (fun K' hK' => ?_)
   rw [if_pos (wn1 rfl (yd (t := 58) rfl (by rw [HL]) (by decide) eg))]
   have HK := Lib.hid hK'
   clear hK' eg
   have x59 := (mkL_get (n := 117) (f := f) (t := 59) (i := 12) (by rw [HL]) (by decide)).trans (congrArg some e12)
   have x60 := (mkL_get (n := 117) (f := f) (t := 60) (i := 13) (by rw [HL]) (by decide)).trans (congrArg some e13)
   have x65 := (mkL_get (n := 117) (f := f) (t := 65) (i := 18) (by rw [HL]) (by decide)).trans (congrArg some e18)
   have x66 := (mkL_get (n := 117) (f := f) (t := 66) (i := 19) (by rw [HL]) (by decide)).trans (congrArg some e19)
   have x70 := (mkL_get (n := 117) (f := f) (t := 70) (i := 23) (by rw [HL]) (by decide)).trans (congrArg some e23)
   have E12 := Lib.hid e12
   clear e12
   have E13 := Lib.hid e13
   clear e13
   have E18 := Lib.hid e18
   clear e18
   have E19 := Lib.hid e19
   clear e19
   have E23 := Lib.hid e23
   clear e23
   go_simp
   refine (fills_yes _ _ _ _ _ _ 3 _ 3 _ 3 _ _ _ _ _ _ exU30 exOff exQn _ _ _ _ _ _ (HU.out.1.below hkp) (HU.out.2.2.2.1.below hkp) r18 (by decide) (by decide) (by decide) cx2 fx2 (by have h := r23; (try simp only [HI.out] at h); exact h) (rq_zero _) (by decide)).mono ?_
   rintro e v1 ⟨rfl, hbx⟩
   (try (go_wp2_with fail))
   refine fin_step HK.out (mkL_put (t := 71) (by rw [HL]) (by decide)) (HKK.out _ v1 (HS.out _ (Kp.trans hkp hbx)) hbx ?_ (fun _ _ _ => trivial))
   show Vis (Value.bool true) _ v1
   exact rfl
  refine lt_split (n := 23) ?_ ?_
  rotate_left
  ·intro f w' K hS hn hK
   have HN := Lib.hid hn
   have HKK := Lib.hid hK
   have hkp := hS.2
   have hS0 := Lib.hid hS
   clear hn hK hS
   have eg := (show Vis (Value.bool true) (f 11) w' from HN.out 11 (List.mem_of_elem_eq_true (by kernel_rfl)))
   have e20 := (show Vis (Value.agg #[Value.bool false, Value.slice none 0 0, Value.bool false, Value.slice none 0 0]) (f 20) w' from HN.out 20 (List.mem_of_elem_eq_true (by kernel_rfl)))
   have e21 := (show Vis (Value.agg #[Value.bool false, Value.slice none 0 0, Value.bool false, Value.slice none 0 0]) (f 21) w' from HN.out 21 (List.mem_of_elem_eq_true (by kernel_rfl)))
   have e22 := (show Vis (Value.agg #[Value.bool false, Value.slice none 0 0, Value.bool false, Value.slice none 0 0]) (f 22) w' from HN.out 22 (List.mem_of_elem_eq_true (by kernel_rfl)))
   refine wpOp_step rfl (fun K' hK' => ?_)
   rw [if_pos (wn1 rfl (yd (t := 58) rfl (by rw [HL]) (by decide) eg))]
   have HK := Lib.hid hK'
   clear hK' eg
   have x67 := (mkL_get (n := 117) (f := f) (t := 67) (i := 20) (by rw [HL]) (by decide)).trans (congrArg some e20)
   have x68 := (mkL_get (n := 117) (f := f) (t := 68) (i := 21) (by rw [HL]) (by decide)).trans (congrArg some e21)
   have x69 := (mkL_get (n := 117) (f := f) (t := 69) (i := 22) (by rw [HL]) (by decide)).trans (congrArg some e22)
   have E20 := Lib.hid e20
   clear e20
   have E21 := Lib.hid e21
   clear e21
   have E22 := Lib.hid e22
   clear e22
   go_simp
   have ka := (Kp.refl w').alloc (.cells #[.bool false, .slice none 0 0, .bool false, .slice none 0 0, .bool false, .slice none 0 0, .bool false, .slice none 0 0, .bool false, .slice none 0 0, .bool false, .slice none 0 0] 31)
   refine fin_step HK.out (mkL_put (t := 70) (by rw [HL]) (by decide)) (HKK.out _ _ (HS.out _ (Kp.trans hkp ka)) ka ?_ (fun _ _ _ => trivial))
   show VQ 3 [0, 0, 0] _ _
   exact ⟨_, rfl, (QsAt.lit3 (Blk.new _ _ _) (rq_zero _) (rq_zero _) (rq_zero _) rfl rfl rfl)⟩
  refine lt_split (n := 22) ?_ ?_
  rotate_left
  ·intro f w' K hS hn hK
   have HN := Lib.hid hn
   have HKK := Lib.hid hK
   have hkp := hS.2
   have hS0 := Lib.hid hS
   clear hn hK hS
   have eg := (show Vis (Value.bool true) (f 11) w' from HN.out 11 (List.mem_of_elem_eq_true (by kernel_rfl)))
   refine wpOp_step rfl (fun K' hK' => ?_)
   rw [if_pos (wn1 rfl (yd (t := 58) rfl (by rw [HL]) (by decide) eg))]
   have HK := Lib.hid hK'
   clear hK' eg
   have x5 := (mkL_fix (n := 117) (f := f) p5)
   obtain ⟨⟨a0, a1, a2, a3, a4, a5, a6, a7, a8, a9, a10, a11, a12, a13, a14, a15, a16⟩, -⟩ := hS0.out
   go_simp
   refine fin_step HK.out (mkL_put (t := 69) (by rw [HL]) (by decide)) (HKK.out (Value.agg #[Value.bool false, Value.slice none 0 0, Value.bool false, Value.slice none 0 0]) w' hS0.out (Kp.refl w') ?_ (fun _ _ _ => trivial))
   show Vis (Value.agg #[Value.bool false, Value.slice none 0 0, Value.bool false, Value.slice none 0 0]) (Value.agg #[Value.bool false, Value.slice none 0 0, Value.bool false, Value.slice none 0 0]) w'
   exact rfl
  refine lt_split (n := 21) ?_ ?_
  rotate_left
  ·intro f w' K hS hn hK
   have HN := Lib.hid hn
   have HKK := Lib.hid hK
   have hkp := hS.2
   have hS0 := Lib.hid hS
   clear hn hK hS
   have eg := (show Vis (Value.bool true) (f 11) w' from HN.out 11 (List.mem_of_elem_eq_true (by kernel_rfl)))
   refine wpOp_step rfl (fun K' hK' => ?_)
   rw [if_pos (wn1 rfl (yd (t := 58) rfl (by rw [HL]) (by decide) eg))]
   have HK := Lib.hid hK'
   clear hK' eg
   have x5 := (mkL_fix (n := 117) (f := f) p5)
   obtain ⟨⟨a0, a1, a2, a3, a4, a5, a6, a7, a8, a9, a10, a11, a12, a13, a14, a15, a16⟩, -⟩ := hS0.out
   go_simp
   refine fin_step HK.out (mkL_put (t := 68) (by rw [HL]) (by decide)) (HKK.out (Value.agg #[Value.bool false, Value.slice none 0 0, Value.bool false, Value.slice none 0 0]) w' hS0.out (Kp.refl w') ?_ (fun _ _ _ => trivial))
   show Vis (Value.agg #[Value.bool false, Value.slice none 0 0, Value.bool false, Value.slice none 0 0]) (Value.agg #[Value.bool false, Value.slice none 0 0, Value.bool false, Value.slice none 0 0]) w'
   exact rfl
  refine lt_split (n := 20) ?_ ?_
  rotate_left
  ·intro f w' K hS hn hK
   have HN := Lib.hid hn
   have HKK := Lib.hid hK
   have hkp := hS.2
   have hS0 := Lib.hid hS
   clear hn hK hS
   have eg := (show Vis (Value.bool true) (f 11) w' from HN.out 11 (List.mem_of_elem_eq_true (by kernel_rfl)))
   refine wpOp_step rfl (fun K' hK' => ?_)
   rw [if_pos (wn1 rfl (yd (t := 58) rfl (by rw [HL]) (by decide) eg))]
   have HK := Lib.hid hK'
   clear hK' eg
   have x5 := (mkL_fix (n := 117) (f := f) p5)
   obtain ⟨⟨a0, a1, a2, a3, a4, a5, a6, a7, a8, a9, a10, a11, a12, a13, a14, a15, a16⟩, -⟩ := hS0.out
   go_simp
   refine fin_step HK.out (mkL_put (t := 67) (by rw [HL]) (by decide)) (HKK.out (Value.agg #[Value.bool false, Value.slice none 0 0, Value.bool false, Value.slice none 0 0]) w' hS0.out (Kp.refl w') ?_ (fun _ _ _ => trivial))
   show Vis (Value.agg #[Value.bool false, Value.slice none 0 0, Value.bool false, Value.slice none 0 0]) (Value.agg #[Value.bool false, Value.slice none 0 0, Value.bool false, Value.slice none 0 0]) w'
   exact rfl
  refine lt_split (n := 19) ?_ ?_
  rotate_left
  ·intro f w' K hS hn hK
   have HN := Lib.hid hn
   have HKK := Lib.hid hK
   have hkp := hS.2
   have hS0 := Lib.hid hS
   clear hn hK hS
   have eg := (show Vis (Value.bool true) (f 11) w' from HN.out 11 (List.mem_of_elem_eq_true (by kernel_rfl)))
   refine wpOp_step rfl (fun K' hK' => ?_)
   rw [if_pos (wn1 rfl (yd (t := 58) rfl (by rw [HL]) (by decide) eg))]
   have HK := Lib.hid hK'
   clear hK' eg
   have x5 := (mkL_fix (n := 117) (f := f) p5)
   obtain ⟨⟨a0, a1, a2, a3, a4, a5, a6, a7, a8, a9, a10, a11, a12, a13, a14, a15, a16⟩, -⟩ := hS0.out
   go_simp
   refine fin_step HK.out (mkL_put (t := 66) (by rw [HL]) (by decide)) (HKK.out (Value.agg #[Value.bool false, Value.slice none 0 0, Value.bool false, Value.slice none 0 0]) w' hS0.out (Kp.refl w') ?_ (fun _ _ _ => trivial))
   show Vis (Value.agg #[Value.bool false, Value.slice none 0 0, Value.bool false, Value.slice none 0 0]) (Value.agg #[Value.bool false, Value.slice none 0 0, Value.bool false, Value.slice none 0 0]) w'
   exact rfl
  refine lt_split (n := 18) ?_ ?_
  rotate_left
  ·intro f w' K hS hn hK
   have HN := Lib.hid hn
   have HKK := Lib.hid hK
   have hkp := hS.2
   have hS0 := Lib.hid hS
   clear hn hK hS
   have eg := (show Vis (Value.bool true) (f 11) w' from HN.out 11 (List.mem_of_elem_eq_true (by kernel_rfl)))
   obtain ⟨A15, k15, c15, B15, l15, d15, e15, r15⟩ := (show Vq (ι (5)) (f 15) w' from HN.out 15 (List.mem_of_elem_eq_true (by kernel_rfl)))
   have e16 := (show Vis (Value.agg #[Value.bool true, Value.slice (some ⟨g1, 0, none⟩) 1 1, Value.bool true, Value.slice (some ⟨g2, 0, none⟩) 1 1]) (f 16) w' from HN.out 16 (List.mem_of_elem_eq_true (by kernel_rfl)))
   obtain ⟨A17, k17, c17, B17, l17, d17, e17, r17⟩ := (show Vq (y52) (f 17) w' from HN.out 17 (List.mem_of_elem_eq_true (by kernel_rfl)))
   refine wpOp_step rfl (fun K' hK' => ?_)
   rw [if_pos (wn1 rfl (yd (t := 58) rfl (by rw [HL]) (by decide) eg))]
   have HK := Lib.hid hK'
   clear hK' eg
   have x62 := (mkL_get (n := 117) (f := f) (t := 62) (i := 15) (by rw [HL]) (by decide)).trans (congrArg some e15)
   have x63 := (mkL_get (n := 117) (f := f) (t := 63) (i := 16) (by rw [HL]) (by decide)).trans (congrArg some e16)
   have x64 := (mkL_get (n := 117) (f := f) (t := 64) (i := 17) (by rw [HL]) (by decide)).trans (congrArg some e17)
   have E15 := Lib.hid e15
   clear e15
   have E16 := Lib.hid e16
   clear e16
   have E17 := Lib.hid e17
   clear e17
   go_simp
   have ka := (Kp.refl w').alloc (.cells #[.bool (decide ((ι (5)).num < 0)), .slice A15 k15 c15, .bool false, .slice B15 l15 d15, .bool true, .slice (some ⟨g1, 0, none⟩) 1 1, .bool true, .slice (some ⟨g2, 0, none⟩) 1 1, .bool (decide ((y52).num < 0)), .slice A17 k17 c17, .bool false, .slice B17 l17 d17] 31)
   refine fin_step HK.out (mkL_put (t := 65) (by rw [HL]) (by decide)) (HKK.out _ _ (HS.out _ (Kp.trans hkp ka)) ka ?_ (fun _ _ _ => trivial))
   show VG 3 exQn _ _
   exact ⟨_, rfl, (gs_raw HI.out HY.out (Blk.new _ _ _) (r15.below ka) (HU.out.2.2.2.2.2.2.2.2.below (Kp.trans hkp ka)) (r17.below ka))⟩
  refine lt_split (n := 17) ?_ ?_
  rotate_left
  ·intro f w' K hS hn hK
   have HN := Lib.hid hn
   have HKK := Lib.hid hK
   have hkp := hS.2
   have hS0 := Lib.hid hS
   clear hn hK hS
   have eg := (show Vis (Value.bool true) (f 11) w' from HN.out 11 (List.mem_of_elem_eq_true (by kernel_rfl)))
   refine wpOp_step rfl (fun K' hK' => ?_)
   rw [if_pos (wn1 rfl (yd (t := 58) rfl (by rw [HL]) (by decide) eg))]
   have HK := Lib.hid hK'
   clear hK' eg
   go_simp
   refine (TO5.out _).mono ?_
   rintro e v1 ⟨A1, k1, c1, B1, j1, d1, rfl, hk9, hj9, hW9, hX9, -, -, hbx⟩
   (try (go_wp2_with fail))
   refine fin_step HK.out (mkL_put (t := 64) (by rw [HL]) (by decide)) (HKK.out _ v1 (HS.out _ (Kp.trans hkp hbx)) hbx ?_ (fun _ _ _ => trivial))
   show Vq (y52) _ _
   exact ⟨A1, k1, c1, B1, j1, d1, rfl, hk9, hj9, hW9, hX9⟩
  refine lt_split (n := 16) ?_ ?_
  rotate_left
  ·intro f w' K hS hn hK
   have HN := Lib.hid hn
   have HKK := Lib.hid hK
   have hkp := hS.2
   have hS0 := Lib.hid hS
   clear hn hK hS
   have eg := (show Vis (Value.bool true) (f 11) w' from HN.out 11 (List.mem_of_elem_eq_true (by kernel_rfl)))
   refine wpOp_step rfl (fun K' hK' => ?_)
   rw [if_pos (wn1 rfl (yd (t := 58) rfl (by rw [HL]) (by decide) eg))]
   have HK := Lib.hid hK'
   clear hK' eg
   have x11 := (mkL_fix (n := 117) (f := f) p11)
   obtain ⟨⟨a0, a1, a2, a3, a4, a5, a6, a7, a8, a9, a10, a11, a12, a13, a14, a15, a16⟩, -⟩ := hS0.out
   go_simp
   refine fin_step HK.out (mkL_put (t := 63) (by rw [HL]) (by decide)) (HKK.out (Value.agg #[Value.bool true, Value.slice (some ⟨g1, 0, none⟩) 1 1, Value.bool true, Value.slice (some ⟨g2, 0, none⟩) 1 1]) w' hS0.out (Kp.refl w') ?_ (fun _ _ _ => trivial))
   show Vis (Value.agg #[Value.bool true, Value.slice (some ⟨g1, 0, none⟩) 1 1, Value.bool true, Value.slice (some ⟨g2, 0, none⟩) 1 1]) (Value.agg #[Value.bool true, Value.slice (some ⟨g1, 0, none⟩) 1 1, Value.bool true, Value.slice (some ⟨g2, 0, none⟩) 1 1]) w'
   exact rfl
  refine lt_split (n := 15) ?_ ?_
  rotate_left
  ·intro f w' K hS hn hK
   have HN := Lib.hid hn
   have HKK := Lib.hid hK
   have hkp := hS.2
   have hS0 := Lib.hid hS
   clear hn hK hS
   have eg := (show Vis (Value.bool true) (f 11) w' from HN.out 11 (List.mem_of_elem_eq_true (by kernel_rfl)))
   have e14 := (show Vis (Value.func (Fn.func 20) #[] #[]) (f 14) w' from HN.out 14 (List.mem_of_elem_eq_true (by kernel_rfl)))
   refine wpOp_step rfl (fun K' hK' => ?_)
   rw [if_pos (wn1 rfl (yd (t := 58) rfl (by rw [HL]) (by decide) eg))]
   have HK := Lib.hid hK'
   clear hK' eg
   have x61 := (mkL_get (n := 117) (f := f) (t := 61) (i := 14) (by rw [HL]) (by decide)).trans (congrArg some e14)
   have E14 := Lib.hid e14
   clear e14
   go_simp
   refine (TW.out (5) (by decide) _).mono ?_
   rintro e v1 ⟨A1, k1, c1, B1, j1, d1, rfl, hk9, hj9, hW9, hX9, -, -, hbx⟩
   (try (go_wp2_with fail))
   refine fin_step HK.out (mkL_put (t := 62) (by rw [HL]) (by decide)) (HKK.out _ v1 (HS.out _ (Kp.trans hkp hbx)) hbx ?_ (fun _ _ _ => trivial))
   show Vq (ι (5)) _ _
   exact ⟨A1, k1, c1, B1, j1, d1, rfl, hk9, hj9, hW9, hX9⟩
  refine lt_split (n := 14) ?_ ?_
  rotate_left
  ·intro f w' K hS hn hK
   have HN := Lib.hid hn
   have HKK := Lib.hid hK
   have hkp := hS.2
   have hS0 := Lib.hid hS
   clear hn hK hS
   have eg := (show Vis (Value.bool true) (f 11) w' from HN.out 11 (List.mem_of_elem_eq_true (by kernel_rfl)))
   refine wpOp_step rfl (fun K' hK' => ?_)
   rw [if_pos (wn1 rfl (yd (t := 58) rfl (by rw [HL]) (by decide) eg))]
   have HK := Lib.hid hK'
   clear hK' eg
   have x4 := (mkL_fix (n := 117) (f := f) p4)
   go_simp
   refine fin_step HK.out (mkL_put (t := 61) (by rw [HL]) (by decide)) (HKK.out (Value.func (Fn.func 20) #[] #[]) w' hS0.out (Kp.refl w') ?_ (fun _ _ _ => trivial))
   show Vis (Value.func (Fn.func 20) #[] #[]) (Value.func (Fn.func 20) #[] #[]) w'
   exact rfl
  refine lt_split (n := 13) ?_ ?_
  rotate_left
  ·intro f w' K hS hn hK
   have HN := Lib.hid hn
   have HKK := Lib.hid hK
   have hkp := hS.2
   have hS0 := Lib.hid hS
   clear hn hK hS
   have eg := (show Vis (Value.bool true) (f 11) w' from HN.out 11 (List.mem_of_elem_eq_true (by kernel_rfl)))
   refine wpOp_step rfl (fun K' hK' => ?_)
   rw [if_pos (wn1 rfl (yd (t := 58) rfl (by rw [HL]) (by decide) eg))]
   have HK := Lib.hid hK'
   clear hK' eg
   have x6 := (mkL_fix (n := 117) (f := f) p6)
   go_simp
   refine fin_step HK.out (mkL_put (t := 60) (by rw [HL]) (by decide)) (HKK.out (Value.slice (some ⟨go, 0, none⟩) 3 3) w' hS0.out (Kp.refl w') ?_ (fun _ _ _ => trivial))
   show Vis (Value.slice (some ⟨go, 0, none⟩) 3 3) (Value.slice (some ⟨go, 0, none⟩) 3 3) w'
   exact rfl
  refine lt_split (n := 12) ?_ ?_
  rotate_left
  ·intro f w' K hS hn hK
   have HN := Lib.hid hn
   have HKK := Lib.hid hK
   have hkp := hS.2
   have hS0 := Lib.hid hS
   clear hn hK hS
   have eg := (show Vis (Value.bool true) (f 11) w' from HN.out 11 (List.mem_of_elem_eq_true (by kernel_rfl)))
   refine wpOp_step rfl (fun K' hK' => ?_)
   rw [if_pos (wn1 rfl (yd (t := 58) rfl (by rw [HL]) (by decide) eg))]
   have HK := Lib.hid hK'
   clear hK' eg
   have x1 := (mkL_fix (n := 117) (f := f) p1)
   go_simp
   refine fin_step HK.out (mkL_put (t := 59) (by rw [HL]) (by decide)) (HKK.out (Value.slice (some ⟨gu, 0, none⟩) 3 3) w' hS0.out (Kp.refl w') ?_ (fun _ _ _ => trivial))
   show Vis (Value.slice (some ⟨gu, 0, none⟩) 3 3) (Value.slice (some ⟨gu, 0, none⟩) 3 3) w'
   exact rfl
  refine lt_split (n := 11) ?_ ?_
  rotate_left
  ·intro f w' K hS hn hK
   have HN := Lib.hid hn
   have HKK := Lib.hid hK
   have hkp := hS.2
   have hS0 := Lib.hid hS
   clear hn hK hS
   have e10 := (show Vis (Value.bool true) (f 10) w' from HN.out 10 (List.mem_of_elem_eq_true (by kernel_rfl)))
   refine wpOp_step rfl (fun K' hK' => ?_)
   rw [if_pos (wn0 rfl)]
   have HK := Lib.hid hK'
   clear hK'
   have x57 := (mkL_get (n := 117) (f := f) (t := 57) (i := 10) (by rw [HL]) (by decide)).trans (congrArg some e10)
   have E10 := Lib.hid e10
   clear e10
   go_simp
   refine fin_step HK.out (mkL_put (t := 58) (by rw [HL]) (by decide)) (HKK.out (Value.bool true) w' hS0.out (Kp.refl w') ?_ (fun _ _ _ => trivial))
   show Vis (Value.bool true) (Value.bool true) w'
   exact rfl
  refine lt_split (n := 10) ?_ ?_
  rotate_left
  ·intro f w' K hS hn hK
   have HN := Lib.hid hn
   have HKK := Lib.hid hK
   have hkp := hS.2
   have hS0 := Lib.hid hS
   clear hn hK hS
   have e0 := (show Vis (Value.slice (some ⟨gu, 0, none⟩) 3 3) (f 0) w' from HN.out 0 (List.mem_of_elem_eq_true (by kernel_rfl)))
   have e1 := (show Vis (Value.slice (some ⟨go, 0, none⟩) 3 3) (f 1) w' from HN.out 1 (List.mem_of_elem_eq_true (by kernel_rfl)))
   have e2 := (show Vis (Value.slice (some ⟨gn, 0, none⟩) 3 3) (f 2) w' from HN.out 2 (List.mem_of_elem_eq_true (by kernel_rfl)))
   have e3 := (show Vis (Value.agg #[Value.bool false, Value.slice none 0 0, Value.bool false, Value.slice none 0 0]) (f 3) w' from HN.out 3 (List.mem_of_elem_eq_true (by kernel_rfl)))
   obtain ⟨g9, e9, r9⟩ := (show VQ 3 [ι (4), 0, ι (2)] (f 9) w' from HN.out 9 (List.mem_of_elem_eq_true (by kernel_rfl)))
   refine wpOp_step rfl (fun K' hK' => ?_)
   rw [if_pos (wn0 rfl)]
   have HK := Lib.hid hK'
   clear hK'
   have x47 := (mkL_get (n := 117) (f := f) (t := 47) (i := 0) (by rw [HL]) (by decide)).trans (congrArg some e0)
   have x48 := (mkL_get (n := 117) (f := f) (t := 48) (i := 1) (by rw [HL]) (by decide)).trans (congrArg some e1)
   have x49 := (mkL_get (n := 117) (f := f) (t := 49) (i := 2) (by rw [HL]) (by decide)).trans (congrArg some e2)
   have x50 := (mkL_get (n := 117) (f := f) (t := 50) (i := 3) (by rw [HL]) (by decide)).trans (congrArg some e3)
   have x56 := (mkL_get (n := 117) (f := f) (t := 56) (i := 9) (by rw [HL]) (by decide)).trans (congrArg some e9)
   have E0 := Lib.hid e0
   clear e0
   have E1 := Lib.hid e1
   clear e1
   have E2 := Lib.hid e2
   clear e2
   have E3 := Lib.hid e3
   clear e3
   have E9 := Lib.hid e9
   clear e9
   go_simp
   refine (fills_yes _ _ _ _ _ _ 3 _ 3 _ 3 _ _ _ _ _ _ exU30 exOff exQn _ _ _ _ _ _ (HU.out.1.below hkp) (HU.out.2.2.2.1.below hkp) (HU.out.2.2.2.2.1.below hkp) (by decide) (by decide) (by decide) cx1 fx1 (by have h := r9; (try simp only [HI.out] at h); exact h) (rq_zero _) (by decide)).mono ?_
   rintro e v1 ⟨rfl, hbx⟩
   (try (go_wp2_with fail))
   refine fin_step HK.out (mkL_put (t := 57) (by rw [HL]) (by decide)) (HKK.out _ v1 (HS.out _ (Kp.trans hkp hbx)) hbx ?_ (fun _ _ _ => trivial))
   show Vis (Value.bool true) _ v1
   exact rfl
  refine lt_split (n := 9) ?_ ?_
  rotate_left
  ·intro f w' K hS hn hK
   have HN := Lib.hid hn
   have HKK := Lib.hid hK
   have hkp := hS.2
   have hS0 := Lib.hid hS
   clear hn hK hS
   obtain ⟨A5, k5, c5, B5, l5, d5, e5, r5⟩ := (show Vq (ι (4)) (f 5) w' from HN.out 5 (List.mem_of_elem_eq_true (by kernel_rfl)))
   have e6 := (show Vis (Value.agg #[Value.bool false, Value.slice none 0 0, Value.bool false, Value.slice none 0 0]) (f 6) w' from HN.out 6 (List.mem_of_elem_eq_true (by kernel_rfl)))
   obtain ⟨A8, k8, c8, B8, l8, d8, e8, r8⟩ := (show Vq (ι (2)) (f 8) w' from HN.out 8 (List.mem_of_elem_eq_true (by kernel_rfl)))
   refine wpOp_step rfl (fun K' hK' => ?_)
   rw [if_pos (wn0 rfl)]
   have HK := Lib.hid hK'
   clear hK'
   have x52 := (mkL_get (n := 117) (f := f) (t := 52) (i := 5) (by rw [HL]) (by decide)).trans (congrArg some e5)
   have x53 := (mkL_get (n := 117) (f := f) (t := 53) (i := 6) (by rw [HL]) (by decide)).trans (congrArg some e6)
   have x55 := (mkL_get (n := 117) (f := f) (t := 55) (i := 8) (by rw [HL]) (by decide)).trans (congrArg some e8)
   have E5 := Lib.hid e5
   clear e5
   have E6 := Lib.hid e6
   clear e6
   have E8 := Lib.hid e8
   clear e8
   go_simp
   have ka := (Kp.refl w').alloc (.cells #[.bool (decide ((ι (4)).num < 0)), .slice A5 k5 c5, .bool false, .slice B5 l5 d5, .bool false, .slice none 0 0, .bool false, .slice none 0 0, .bool (decide ((ι (2)).num < 0)), .slice A8 k8 c8, .bool false, .slice B8 l8 d8] 31)
   refine fin_step HK.out (mkL_put (t := 56) (by rw [HL]) (by decide)) (HKK.out _ _ (HS.out _ (Kp.trans hkp ka)) ka ?_ (fun _ _ _ => trivial))
   show VQ 3 [ι (4), 0, ι (2)] _ _
   exact ⟨_, rfl, (QsAt.lit3 (Blk.new _ _ _) (r5.below ka) (rq_zero _) (r8.below ka) rfl rfl rfl)⟩
  refine lt_split (n := 8) ?_ ?_
  rotate_left
  ·intro f w' K hS hn hK
   have HN := Lib.hid hn
   have HKK := Lib.hid hK
   have hkp := hS.2
   have hS0 := Lib.hid hS
   clear hn hK hS
   have e7 := (show Vis (Value.func (Fn.func 20) #[] #[]) (f 7) w' from HN.out 7 (List.mem_of_elem_eq_true (by kernel_rfl)))
   refine wpOp_step rfl (fun K' hK' => ?_)
   rw [if_pos (wn0 rfl)]
   have HK := Lib.hid hK'
   clear hK'
   have x54 := (mkL_get (n := 117) (f := f) (t := 54) (i := 7) (by rw [HL]) (by decide)).trans (congrArg some e7)
   have E7 := Lib.hid e7
   clear e7
   go_simp
   refine (TW.out (2) (by decide) _).mono ?_
   rintro e v1 ⟨A1, k1, c1, B1, j1, d1, rfl, hk9, hj9, hW9, hX9, -, -, hbx⟩
   (try (go_wp2_with fail))
   refine fin_step HK.out (mkL_put (t := 55) (by rw [HL]) (by decide)) (HKK.out _ v1 (HS.out _ (Kp.trans hkp hbx)) hbx ?_ (fun _ _ _ => trivial))
   show Vq (ι (2)) _ _
   exact ⟨A1, k1, c1, B1, j1, d1, rfl, hk9, hj9, hW9, hX9⟩
  refine lt_split (n := 7) ?_ ?_
  rotate_left
  ·intro f w' K hS hn hK
   have HN := Lib.hid hn
   have HKK := Lib.hid hK
   have hkp := hS.2
   have hS0 := Lib.hid hS
   clear hn hK hS
   refine wpOp_step rfl (fun K' hK' => ?_)
   rw [if_pos (wn0 rfl)]
   have HK := Lib.hid hK'
   clear hK'
   have x4 := (mkL_fix (n := 117) (f := f) p4)
   go_simp
   refine fin_step HK.out (mkL_put (t := 54) (by rw [HL]) (by decide)) (HKK.out (Value.func (Fn.func 20) #[] #[]) w' hS0.out (Kp.refl w') ?_ (fun _ _ _ => trivial))
   show Vis (Value.func (Fn.func 20) #[] #[]) (Value.func (Fn.func 20) #[] #[]) w'
   exact rfl
  refine lt_split (n := 6) ?_ ?_
  rotate_left
  ·intro f w' K hS hn hK
   have HN := Lib.hid hn
   have HKK := Lib.hid hK
   have hkp := hS.2
   have hS0 := Lib.hid hS
   clear hn hK hS
   refine wpOp_step rfl (fun K' hK' => ?_)
   rw [if_pos (wn0 rfl)]
   have HK := Lib.hid hK'
   clear hK'
   have x5 := (mkL_fix (n := 117) (f := f) p5)
   obtain ⟨⟨a0, a1, a2, a3, a4, a5, a6, a7, a8, a9, a10, a11, a12, a13, a14, a15, a16⟩, -⟩ := hS0.out
   go_simp
   refine fin_step HK.out (mkL_put (t := 53) (by rw [HL]) (by decide)) (HKK.out (Value.agg #[Value.bool false, Value.slice none 0 0, Value.bool false, Value.slice none 0 0]) w' hS0.out (Kp.refl w') ?_ (fun _ _ _ => trivial))
   show Vis (Value.agg #[Value.bool false, Value.slice none 0 0, Value.bool false, Value.slice none 0 0]) (Value.agg #[Value.bool false, Value.slice none 0 0, Value.bool false, Value.slice none 0 0]) w'
   exact rfl
  refine lt_split (n := 5) ?_ ?_
  rotate_left
  ·intro f w' K hS hn hK
   have HN := Lib.hid hn
   have HKK := Lib.hid hK
   have hkp := hS.2
   have hS0 := Lib.hid hS
   clear hn hK hS
   have e4 := (show Vis (Value.func (Fn.func 20) #[] #[]) (f 4) w' from HN.out 4 (List.mem_of_elem_eq_true (by kernel_rfl)))
   refine wpOp_step rfl (fun K' hK' => ?_)
   rw [if_pos (wn0 rfl)]
   have HK := Lib.hid hK'
   clear hK'
   have x51 := (mkL_get (n := 117) (f := f) (t := 51) (i := 4) (by rw [HL]) (by decide)).trans (congrArg some e4)
   have E4 := Lib.hid e4
   clear e4
   go_simp
   refine (TW.out (4) (by decide) _).mono ?_
   rintro e v1 ⟨A1, k1, c1, B1, j1, d1, rfl, hk9, hj9, hW9, hX9, -, -, hbx⟩
   (try (go_wp2_with fail))
   refine fin_step HK.out (mkL_put (t := 52) (by rw [HL]) (by decide)) (HKK.out _ v1 (HS.out _ (Kp.trans hkp hbx)) hbx ?_ (fun _ _ _ => trivial))
   show Vq (ι (4)) _ _
   exact ⟨A1, k1, c1, B1, j1, d1, rfl, hk9, hj9, hW9, hX9⟩
  refine lt_split (n := 4) ?_ ?_
  rotate_left
  ·intro f w' K hS hn hK
   have HN := Lib.hid hn
   have HKK := Lib.hid hK
   have hkp := hS.2
   have hS0 := Lib.hid hS
   clear hn hK hS
   refine wpOp_step rfl (fun K' hK' => ?_)
   rw [if_pos (wn0 rfl)]
   have HK := Lib.hid hK'
   clear hK'
   have x4 := (mkL_fix (n := 117) (f := f) p4)
   go_simp
   refine fin_step HK.out (mkL_put (t := 51) (by rw [HL]) (by decide)) (HKK.out (Value.func (Fn.func 20) #[] #[]) w' hS0.out (Kp.refl w') ?_ (fun _ _ _ => trivial))
   show Vis (Value.func (Fn.func 20) #[] #[]) (Value.func (Fn.func 20) #[] #[]) w'
   exact rfl
  refine lt_split (n := 3) ?_ ?_
  rotate_left
  ·intro f w' K hS hn hK
   have HN := Lib.hid hn
   have HKK := Lib.hid hK
   have hkp := hS.2
   have hS0 := Lib.hid hS
   clear hn hK hS
   refine wpOp_step rfl (fun K' hK' => ?_)
   rw [if_pos (wn0 rfl)]
   have HK := Lib.hid hK'
   clear hK'
   have x5 := (mkL_fix (n := 117) (f := f) p5)
   obtain ⟨⟨a0, a1, a2, a3, a4, a5, a6, a7, a8, a9, a10, a11, a12, a13, a14, a15, a16⟩, -⟩ := hS0.out
   go_simp
   refine fin_step HK.out (mkL_put (t := 50) (by rw [HL]) (by decide)) (HKK.out (Value.agg #[Value.bool false, Value.slice none 0 0, Value.bool false, Value.slice none 0 0]) w' hS0.out (Kp.refl w') ?_ (fun _ _ _ => trivial))
   show Vis (Value.agg #[Value.bool false, Value.slice none 0 0, Value.bool false, Value.slice none 0 0]) (Value.agg #[Value.bool false, Value.slice none 0 0, Value.bool false, Value.slice none 0 0]) w'
   exact rfl
  refine lt_split (n := 2) ?_ ?_
  rotate_left
  ·intro f w' K hS hn hK
   have HN := Lib.hid hn
   have HKK := Lib.hid hK
   have hkp := hS.2
   have hS0 := Lib.hid hS
   clear hn hK hS
   refine wpOp_step rfl (fun K' hK' => ?_)
   rw [if_pos (wn0 rfl)]
   have HK := Lib.hid hK'
   clear hK'
   have x7 := (mkL_fix (n := 117) (f := f) p7)
   go_simp
   refine fin_step HK.out (mkL_put (t := 49) (by rw [HL]) (by decide)) (HKK.out (Value.slice (some ⟨gn, 0, none⟩) 3 3) w' hS0.out (Kp.refl w') ?_ (fun _ _ _ => trivial))
   show Vis (Value.slice (some ⟨gn, 0, none⟩) 3 3) (Value.slice (some ⟨gn, 0, none⟩) 3 3) w'
   exact rfl
  refine lt_split (n := 1) ?_ ?_
  rotate_left
  ·intro f w' K hS hn hK
   have HN := Lib.hid hn
   have HKK := Lib.hid hK
   have hkp := hS.2
   have hS0 := Lib.hid hS
   clear hn hK hS
   refine wpOp_step rfl (fun K' hK' => ?_)
   rw [if_pos (wn0 rfl)]
   have HK := Lib.hid hK'
   clear hK'
   have x6 := (mkL_fix (n := 117) (f := f) p6)
   go_simp
   refine fin_step HK.out (mkL_put (t := 48) (by rw [HL]) (by decide)) (HKK.out (Value.slice (some ⟨go, 0, none⟩) 3 3) w' hS0.out (Kp.refl w') ?_ (fun _ _ _ => trivial))
   show Vis (Value.slice (some ⟨go, 0, none⟩) 3 3) (Value.slice (some ⟨go, 0, none⟩) 3 3) w'
   exact rfl
  refine lt_split (n := 0) ?_ ?_
  rotate_left
  ·intro f w' K hS hn hK
   have HN := Lib.hid hn
   have HKK := Lib.hid hK
   have hkp := hS.2
   have hS0 := Lib.hid hS
   clear hn hK hS
   refine wpOp_step rfl (fun K' hK' => ?_)
   rw [if_pos (wn0 rfl)]
   have HK := Lib.hid hK'
   clear hK'
   have x1 := (mkL_fix (n := 117) (f := f) p1)
   go_simp
   refine fin_step HK.out (mkL_put (t := 47) (by rw [HL]) (by decide)) (HKK.out (Value.slice (some ⟨gu, 0, none⟩) 3 3) w' hS0.out (Kp.refl w') ?_ (fun _ _ _ => trivial))
   show Vis (Value.slice (some ⟨gu, 0, none⟩) 3 3) (Value.slice (some ⟨gu, 0, none⟩) 3 3) w'
   exact rfl
  ·intro i hi; exact absurd hi (Nat.not_lt_zero _)
 case fin =>
  intro f w' hS hv hd
  have e116 := (show Vis (Value.bool true) (f 116) w' from hv 116 (by omega))
  have hkp := hS.2
  have HB1 := Lib.hid (HX9.out.trans (Below.mono hkp (Below.size HX9.out)))
  have ho := mkL_own (t := 0) (n := 117) (f := f) (v := Value.bool true) (by rw [HL]; decide)
  clear hS hv hd
  have x163 := (mkL_get (n := 117) (f := f) (t := 163) (i := 116) (by rw [HL]) (by decide)).trans (congrArg some e116)
  refine wpAny_ready (rs := [117]) (by kernel_rfl) (by simp) ?_
  refine AllReady.cons rfl (fun K hK => ?_) AllReady.nil
  go_simp
  refine hK _ _ ?_
  clear hK K
  refine wpAny_done (by kernel_rfl) ?_ _
  go_wp2
  go_ret
  refine ⟨?_, HB1.out⟩
  exact congrArg Ending.returned ho

end Go.Proofs.YtodkhjihkkmplaaGreat
