/-
clearingPrice of package clear: the distances. No statement of the seat is proved here; no conditions beyond those of each theorem.
-/
import Derived.Test.YtjajigkacccdgaaGreatTbBN
import Derived.Test.YtjajigkacccdgaaGreatTbBP
import Derived.WalkMore
namespace Go.Proofs.YtjajigkacccdgaaGreat
set_option linter.unusedVariables false
set_option linter.unusedSimpArgs false
open Go.RowKit
open Go.Sort (Holds)
open Wd

def absI (p : Int) : Int := if p < 0 then -p else p
def absL (l : List (Int × Int)) : List Int := l.map fun s => absI s.2
def absS (ls : List (List (Int × Int))) : List Int := ls.flatMap absL
/-- The distances of the steps' prices from 0. -/
def dists (os bs : List (List (Int × Int))) : List Int := 0 :: (absS os ++ absS bs)
theorem absS_snoc {ls : List (List (Int × Int))} {k : Nat} (hk : k < ls.length) : absS (ls.take (k + 1)) = absS (ls.take k) ++ absL (ls[k]?.getD []) := by
 have e : ls.take (k + 1) = ls.take k ++ [ls[k]?.getD []] := by rw [List.take_add_one, List.getElem?_eq_getElem hk]; rfl
 unfold absS
 rw [e, List.flatMap_append]
 simp
theorem absL_snoc {l : List (Int × Int)} {k : Nat} (hk : k < l.length) : absL (l.take (k + 1)) = absL (l.take k) ++ [absI (l[k]?.getD (0, 0)).2] := by
 unfold absL
 rw [take_snocS hk, List.map_append]
 rfl
theorem absL_len (l : List (Int × Int)) : (absL l).length = l.length := by simp [absL]
theorem absS_len : ∀ (ls : List (List (Int × Int))), (∀ l ∈ ls, l.length ≤ 3) → (absS ls).length ≤ 3 * ls.length
 | [], _ => by simp [absS]
 | l :: ls, h => by
  have h1 := h l (List.mem_cons_self ..)
  have h2 := absS_len ls fun y hy => h y (List.mem_cons_of_mem _ hy)
  have e : absS (l :: ls) = absL l ++ absS ls := by simp [absS]
  rw [e, List.length_append, absL_len, List.length_cons]
  omega
theorem Own.side {base : Nat} {e t : TypeId} {size : Nat} {w : World} {A : Option Addr} {n c : Nat} {xs : List Value} {g : Nat} {cs : Array Value} (h : Own base e size w A n c xs) (hb : Blk w g t cs) (hne : t ≠ e) (i : Nat) (v : Value) : Own base e size (w.setCell ⟨g, i, none⟩ v) A n c xs := by
 refine ⟨h.1, ?_⟩
 rcases h.2 with h2 | ⟨g', cap, cur, h2, h3, h4, h5⟩
 ·exact Or.inl h2
 ·refine Or.inr ⟨g', cap, cur, h2, h3, Blk.far (t := e) (cs := cur) h4 (fun e9 => ?_) v, h5⟩
  simp only at e9
  subst e9
  unfold Blk at hb
  rw [hb] at h4
  simp at h4
  exact hne h4.2
theorem Kept.side {w w' : World} {A : Option Addr} {base : Nat} {e t : TypeId} {size n c : Nat} {xs : List Value} {g : Nat} {cs : Array Value} (h : Own base e size w A n c xs) (hb : Blk w g t cs) (hne : t ≠ e) (hk : Kept w w' A) : Blk w' g t cs := by
 refine hk.blk hb fun hA => ?_
 rcases h.2 with ⟨h6, _⟩ | ⟨g', cap', cur', h6, _, h7, _⟩
 ·simp at h6
  rw [h6.1] at hA
  simp at hA
 ·simp at h6
  rw [h6.1] at hA
  simp at hA
  subst hA
  unfold Blk at hb
  rw [hb] at h7
  simp at h7
  exact hne h7.2

/-- The clearing price: the one nearest to 0 that balances. -/
def PrZ (os bs : List (List (Int × Int))) (p : Int) : Prop :=
 (absI p ∈ dists os bs ∧ balB os bs ((p : Int) : Rat) = true ∧ (∀ d ∈ dists os bs, d < absI p → balB os bs ((d : Int) : Rat) = false ∧ balB os bs ((-d : Int) : Rat) = false) ∧ (p < 0 → balB os bs ((-p : Int) : Rat) = false)) ∨
  (p = 0 ∧ ∀ d ∈ dists os bs, balB os bs ((d : Int) : Rat) = false ∧ balB os bs ((-d : Int) : Rat) = false)
theorem dists_nonneg {os bs : List (List (Int × Int))} {d : Int} (h : d ∈ dists os bs) : 0 ≤ d := by
 have key : ∀ ls : List (List (Int × Int)), d ∈ absS ls → 0 ≤ d := fun ls hm => by
  obtain ⟨l, _, hd⟩ := List.mem_flatMap.1 hm
  obtain ⟨s, _, rfl⟩ := List.mem_map.1 hd
  unfold absI
  split <;> omega
 rcases List.mem_cons.1 h with rfl | h
 ·omega
 ·rcases List.mem_append.1 h with h | h
  ·exact key os h
  ·exact key bs h
/-- What the search knows when the first k distances are passed. -/
def PassK (os bs : List (List (Int × Int))) (ps : List Int) (k : Nat) : Prop := ∀ j, j < k → balB os bs (((ps[j]?.getD 0 : Int)) : Rat) = false ∧ balB os bs ((-(ps[j]?.getD 0) : Int) : Rat) = false
theorem pass_found {os bs : List (List (Int × Int))} {ps : List Int} {k : Nat} {p : Int} (hp : ps.Perm (dists os bs)) (hs : ps.Pairwise (fun a b => ltI b a = false)) (hk : k < ps.length) (h : PassK os bs ps k) (hb : balB os bs ((p : Int) : Rat) = true)
  (hx : p = ps[k]?.getD 0 ∨ (p = -(ps[k]?.getD 0) ∧ balB os bs (((ps[k]?.getD 0 : Int)) : Rat) = false)) : PrZ os bs p := by
 have hm : ps[k]?.getD 0 ∈ dists os bs := hp.mem_iff.1 (getD_mem hk)
 have h0 := dists_nonneg hm
 have hab : absI p = ps[k]?.getD 0 := by
  unfold absI
  rcases hx with rfl | ⟨rfl, _⟩ <;> split <;> omega
 refine Or.inl ⟨by rw [hab]; exact hm, hb, fun d hd hlt => ?_, fun hn => ?_⟩
 ·obtain ⟨j, hj, e⟩ := List.getElem_of_mem (hp.mem_iff.2 hd)
  rw [hab] at hlt
  have hjk : j < k := by
   rcases Nat.lt_or_ge j k with h9 | h9
   ·exact h9
   ·exfalso
    rcases Nat.eq_or_lt_of_le h9 with h8 | h8
    ·subst h8
     rw [List.getElem?_eq_getElem hk] at hlt
     simp at hlt
     omega
    ·have := List.pairwise_iff_getElem.1 hs k j hk hj h8
     simp [ltI] at this
     rw [List.getElem?_eq_getElem hk] at hlt
     simp at hlt
     omega
  have := h j hjk
  rw [List.getElem?_eq_getElem hj] at this
  simp only [Option.getD_some] at this
  rw [e] at this
  exact this
 ·rcases hx with rfl | ⟨rfl, h9⟩
  ·omega
  ·rw [Int.neg_neg]
   exact h9
theorem pass_none {os bs : List (List (Int × Int))} {ps : List Int} (hp : ps.Perm (dists os bs)) (h : PassK os bs ps ps.length) : PrZ os bs 0 := by
 refine Or.inr ⟨rfl, fun d hd => ?_⟩
 obtain ⟨j, hj, e⟩ := List.getElem_of_mem (hp.mem_iff.2 hd)
 have := h j hj
 rw [List.getElem?_eq_getElem hj] at this
 simp only [Option.getD_some] at this
 rw [e] at this
 exact this
theorem Own.holdsI {base : Nat} {w : World} {g cap : Nat} {xs : List Int} (h : Own base 2 1 w (some ⟨g, 0, none⟩) xs.length cap (xs.map (Value.int .i64))) (h0 : xs.length ≠ 0) : Holds encI w g 0 xs.toArray ∧ g < w.heap.size ∧ ∀ t cs g', Blk w g' t cs → t ≠ 2 → g' ≠ g := by
 obtain ⟨g', cap', cur, hv, hb, hg⟩ : ∃ g' cap' cur, (Value.slice (some ⟨g, 0, none⟩) xs.length cap) = .slice (some ⟨g', 0, none⟩) xs.length cap' ∧ base ≤ g' ∧ w.heap[g']? = some (.cells cur 2 (0, 0)) := by
  rcases h.2 with ⟨h7, _⟩ | ⟨g', cap', cur', h7, h8, h9, _⟩
  ·simp at h7
  ·exact ⟨g', cap', cur', h7, h8, h9⟩
 simp at hv
 obtain ⟨rfl, rfl⟩ := hv
 refine ⟨fun j hj => ?_, (Array.getElem?_eq_some_iff.1 hg).1, fun t cs g' hb' hne e => ?_⟩
 ·have hj' : j < xs.length := by simpa using hj
  rw [Nat.zero_add, World.ownsRow.cellAt h j (by omega)]
  refine ⟨?_, Blk.frozen (t := 2) hg _⟩
  simp [hj', encI]
 ·subst e
  unfold Blk at hb'
  rw [hg] at hb'
  simp at hb'
  exact hne hb'.2.symm

/-- While the distances are gathered: the box g5, the two sides at gS. -/
def DiR (w : World) (A B : Option Addr) (n c m d : Nat) (g5 gS : Nat) (xs : List Int) (wr : World) : Prop :=
 Below w.heap.size w wr ∧ Blk wr gS 22 #[.slice A n c, .slice B m d] ∧ ∃ Ah ch, Blk wr g5 62 #[.slice Ah xs.length ch] ∧ Own w.heap.size 2 1 wr Ah xs.length ch (xs.map (Value.int .i64)) ∧ w.heap.size ≤ g5

set_option maxRecDepth 100000 in
set_option maxHeartbeats 8000000 in
theorem cprice_any (A B : Option Addr) (n c m d : Nat) (os bs : List (List (Int × Int))) (w : World) (h : CsAt w A n os) (h' : CsAt w B m bs) (ho : ∀ l ∈ os, chk true l = 0) (hb : ∀ l ∈ bs, chk false l = 0) (hn : n ≤ 5) (hm : m ≤ 6) :
  Calls Tryz.prog 108 #[.slice A n c, .slice B m d] w fun e w' => ∃ p, e = .returned (.int .i64 p) ∧ PrZ os bs p ∧ Below w.heap.size w w' := by
 have hsd : ∀ s, s < 2 → ∃ A' n' c' ls', (#[Value.slice A n c, .slice B m d] : Array Value)[s]? = some (.slice A' n' c') ∧ CsAt w A' n' ls' ∧ n' ≤ 6 ∧ (∀ l ∈ ls', l.length ≤ 3 ∧ ∀ s ∈ l, ¬ Bad s.1 s.2) ∧ ls' = ([os, bs] : List _)[s]?.getD [] := fun s hs => by
  obtain rfl | rfl : s = 0 ∨ s = 1 := by omega
  ·exact ⟨A, n, c, os, rfl, h, by omega, fun l hl => ⟨(chk_ok (ho l hl)).2.1, (chk_ok (ho l hl)).2.2.2⟩, rfl⟩
  ·exact ⟨B, m, d, bs, rfl, h', by omega, fun l hl => ⟨(chk_ok (hb l hl)).2.1, (chk_ok (hb l hl)).2.2.2⟩, rfl⟩
 have HSD := Lib.hid hsd
 obtain ⟨ii, hii, hz0, hz1, hz2⟩ := info_parts info_int64
 have HI := Lib.hid hii
 have HZ0 := Lib.hid hz0
 have HZ1 := Lib.hid hz1
 have HZ2 := Lib.hid hz2
 have HX := Lib.hid h
 have HY := Lib.hid h'
 have HO := Lib.hid ho
 have HB := Lib.hid hb
 clear h h' ho hb hsd hii hz0 hz1 hz2
 go_enter Tryz.func108, Tryz.ntmps108
 go_wp2_with fail
 go_step3
 go_wp2_with fail
 have hst : DiR w A B n c m d (w.heap.size + 1) (w.heap.size + 1 + 1) [0] (((w.alloc (.cells #[.int .i64 0] 2)).alloc (.cells #[.slice (some ⟨w.heap.size, 0, none⟩) 1 1] 62)).alloc (.cells #[.slice A n c, .slice B m d] 22)) := by
  refine ⟨(((Below.refl _ _).alloc (Nat.le_refl _) _).alloc (by simp only [World.size_alloc]; omega) _).alloc (by simp only [World.size_alloc]; omega) _, Blk.new2 w _ _ _ _, some ⟨w.heap.size, 0, none⟩, 1, (Blk.new1 w _ _ _).alloc _, ?_, by omega⟩
  refine ⟨rfl, Or.inr ⟨w.heap.size, 1, #[.int .i64 0], rfl, Nat.le_refl _, ((Blk.new w 2 #[.int .i64 0]).alloc _).alloc _, Nat.le_refl _, by simp only [maxLen]; omega, rfl, ?_⟩⟩
  simp
 generalize ((w.alloc (.cells #[.int .i64 0] 2)).alloc (.cells #[.slice (some ⟨w.heap.size, 0, none⟩) 1 1] 62)).alloc (.cells #[.slice A n c, .slice B m d] 22) = W0 at *
 have HST := Lib.hid hst
 clear hst
 go_loopw [22] (fun t wr => ∃ s : Nat, s ≤ 2 ∧ t = .int .i64 s ∧ Hid (DiR w A B n c m d (w.heap.size + 1) (w.heap.size + 1 + 1) (0 :: (([os, bs].take s).flatMap absS)) wr)) (fun t _ => 2 - (intOf t).toNat)
 case atStart => exact ⟨0, Nat.zero_le _, rfl, HST.out⟩
 case round =>
  clear HST
  obtain ⟨s, hs, rfl, hR⟩ := hrel
  by_cases hlt : s < 2
  ·obtain ⟨A', n', c', ls', hce, hcs, hn6, hgd, hle⟩ := HSD.out s hlt
   have hcell := (hR.out.2.1.cell s).trans hce
   have s1 : (0 : Int) ≤ (s : Int) := by omega
   have s2 : (s : Int) < 2 := by omega
   have hsn : 0 :: (([os, bs].take (s + 1)).flatMap absS) = (0 :: (([os, bs].take s).flatMap absS)) ++ absS ls' := by
    have e : [os, bs].take (s + 1) = [os, bs].take s ++ [[os, bs][s]?.getD []] := by rw [List.take_add_one, List.getElem?_eq_getElem (show s < [os, bs].length by simpa using hlt)]; rfl
    rw [e, List.flatMap_append, hle]
    simp
   have HR := Lib.hid hR.out
   have HSN := Lib.hid hsn
   have HCS := Lib.hid hcs
   have HGD := Lib.hid hgd
   have hxl : (0 :: (([os, bs].take s).flatMap absS)).length ≤ 100 := by
    have h1 := absS_len os fun l hl => (chk_ok (HO.out l hl)).2.1
    have h2 := HX.out.1
    obtain rfl | rfl : s = 0 ∨ s = 1 := by omega
    ·simp
    ·simp
     omega
   generalize 0 :: (([os, bs].take s).flatMap absS) = xs0 at *
   clear hce hle hsn hcs hgd hR
   go_wp2_with fail
   go_loopw [28] (fun t wr => ∃ k : Nat, k ≤ n' ∧ t = .int .i64 k ∧ Hid (DiR w A B n c m d (w.heap.size + 1) (w.heap.size + 1 + 1) (xs0 ++ absS (ls'.take k)) wr)) (fun t _ => n' - (intOf t).toNat)
   case atStart => exact ⟨0, Nat.zero_le _, rfl, Lib.hid (by simpa [absS] using HR.out)⟩
   case round =>
    clear HR
    obtain ⟨k, hk, rfl, hR⟩ := hrel
    by_cases hlt2 : k < n'
    ·obtain ⟨b1, o1, rfl, hb1, hc1⟩ := HCS.out.2 (by omega)
     obtain ⟨A2, n2, c2, hc2, hst2⟩ := hc1 k hlt2
     have hcl2 := (hR.out.1.cell (p := ⟨b1, o1 + k, none⟩) hb1).trans hc2
     have hkl : k < ls'.length := by rw [HCS.out.1]; exact hlt2
     have hg2 := HGD.out _ (getD_mem (d := ([] : List (Int × Int))) hkl)
     have hsk := absS_snoc hkl
     have hn2 : n2 ≤ 3 := by rw [← hst2.1]; exact hg2.1
     have hxl2 : (xs0 ++ absS (ls'.take k)).length ≤ 200 := by
      have := absS_len (ls'.take k) fun l hl => (HGD.out l (List.mem_of_mem_take hl)).1
      have h9 := List.length_take_le k ls'
      rw [List.length_append]
      omega
     generalize ls'[k]?.getD [] = l at *
     have HR := Lib.hid hR.out
     have HSK := Lib.hid hsk
     have HST2 := Lib.hid hst2
     have HG2 := Lib.hid hg2.2
     generalize hxs1 : xs0 ++ absS (ls'.take k) = xs1 at *
     have HX1 := Lib.hid hxs1
     have k1 : (0 : Int) ≤ (k : Int) := by omega
     have k2 : (k : Int) < (n' : Int) := by omega
     clear hc1 hc2 hst2 hkl hg2 hsk hR hxs1
     go_wp2_with fail
     go_loopw [34] (fun t wr => ∃ j : Nat, j ≤ n2 ∧ t = .int .i64 j ∧ Hid (DiR w A B n c m d (w.heap.size + 1) (w.heap.size + 1 + 1) (xs1 ++ absL (l.take j)) wr)) (fun t _ => n2 - (intOf t).toNat)
     case atStart => exact ⟨0, Nat.zero_le _, rfl, Lib.hid (by simpa [absL] using HR.out)⟩
     case round =>
      clear HR
      obtain ⟨j, hj, rfl, hR⟩ := hrel
      by_cases hlt3 : j < n2
      ·obtain ⟨hBW, hSid, Ah, ch, hb5, hO, hg5⟩ := hR.out
       obtain ⟨b3, o3, rfl, hb3, hc3⟩ := HST2.out.2.2 (by omega)
       obtain ⟨y0, y1⟩ := hc3 j hlt3
       have hjl : j < l.length := by rw [HST2.out.1]; exact hlt3
       have hbad := HG2.out _ (getD_mem (d := ((0, 0) : Int × Int)) hjl)
       have hsj := absL_snoc hjl
       generalize (l[j]?.getD (0, 0)).1 = s at *
       generalize (l[j]?.getD (0, 0)).2 = p at *
       replace y0 := (hBW.cell (p := ⟨b3, o3 + j * 2, none⟩) hb3).trans y0
       replace y1 := (hBW.cell (p := ⟨b3, o3 + j * 2 + 1, none⟩) hb3).trans y1
       unfold Bad at hbad
       generalize ha : absI p = a at *
       unfold absI at ha
       have xn : IntKind.i64.wrap (-p) = -p := IntWalk.i64_in _ (by omega)
       have a1 : max p (-p) = a := by rw [← ha]; split <;> omega
       have a2 : (if p < -p then -p else p) = a := by rw [← ha]; split <;> split <;> omega
       have a3 : (if -p < p then p else -p) = a := by rw [← ha]; split <;> split <;> omega
       have a4 : (if p ≤ -p then -p else p) = a := by rw [← ha]; split <;> split <;> omega
       have hxl3 : (xs1 ++ absL (l.take j)).length ≤ 300 := by
        have h9 := List.length_take_le j l
        rw [List.length_append, absL_len]
        omega
       have hxsn : xs1 ++ absL (l.take (j + 1)) = (xs1 ++ absL (l.take j)) ++ [a] := by rw [hsj, List.append_assoc]
       generalize xs1 ++ absL (l.take j) = xs2 at *
       have HXSN := Lib.hid hxsn
       have q1 := (Kp.refl wr).alloc (.cells #[.int .i64 s, .int .i64 p] 107)
       have q2 := q1.alloc (.cells #[.int .i64 a] 2)
       have o2 := hO.keep q2
       have m2 := Blk.new1 wr (.cells #[.int .i64 s, .int .i64 p] 107) 2 #[.int .i64 a]
       have b5 := q2.blk hb5
       have bS := q2.blk hSid
       have hB2 : Below w.heap.size w ((wr.alloc (.cells #[.int .i64 s, .int .i64 p] 107)).alloc (.cells #[.int .i64 a] 2)) := hBW.trans (Below.mono q2 hBW.size)
       have c5 := (q1.blk hb5).cell 0
       simp at c5
       have j1 : (0 : Int) ≤ (j : Int) := by omega
       have j2 : (j : Int) < (n2 : Int) := by omega
       clear hc3 hjl hbad hsj ha hxsn hR hBW hSid hb5 hO
       go_wp2_with (first
        | (at_builtin; refine wpList_append_my rfl (base := w.heap.size) (e := 2) (size := 1) (bytes := 8) (.tmp 38) (.tmp 45) 62 rfl Tryz.underlying62 HI.out HZ0.out HZ1.out HZ2.out rfl (by decide) (xs := xs2.map (Value.int .i64)) (news := [.int .i64 a]) rfl (by exact o2) rfl (by exact Blk.src m2 rfl (by simp [Value.oneCell'])) (by simp only [maxLen]; omega) (by omega) (by exact hB2.size) ?_
           intro B1 cb1 w3 hO1 hbb1 hk1
           have b53 := Kept.side o2 b5 (by decide) hk1
           have bS3 := Kept.side o2 bS (by decide) hk1
           have hB3 := hB2.trans hbb1
           have c53 := b53.cell 0
           have f53 := b53.frozen 0
           simp at c53
           have o3 := hO1.side b53 (by decide) 0 (.slice B1 (xs2.length + 1) cb1)
           have b54 := b53.set 0 (.slice B1 (xs2.length + 1) cb1)
           have bS4 := bS3.far (p := ⟨w.heap.size + 1, 0, none⟩) (by dsimp only; omega) (.slice B1 (xs2.length + 1) cb1)
           have hB4 := hB3.setCell (p := ⟨w.heap.size + 1, 0, none⟩) (by dsimp only; omega) (.slice B1 (xs2.length + 1) cb1)
           have hfin : DiR w A B n c m d (w.heap.size + 1) (w.heap.size + 1 + 1) (xs2 ++ [a]) (w3.setCell ⟨w.heap.size + 1, 0, none⟩ (.slice B1 (xs2.length + 1) cb1)) := by
             refine ⟨hB4, bS4, B1, cb1, ?_, ?_, by omega⟩
             ·rw [List.length_append]; exact b54
             ·rw [List.length_append, List.map_append]; exact o3
           have HF := Lib.hid hfin
           clear hbb1 hk1 b53 bS3 hB3 o3 b54 bS4 hB4 hfin hO1))
       go_roundw
       case rel => exact ⟨j + 1, by omega, by go_num, Lib.hid (by rw [HXSN.out]; exact HF.out)⟩
       case measure => simp [intOf]; omega
      ·obtain rfl : j = n2 := by omega
       have HE := Lib.hid (show DiR w A B n c m d (w.heap.size + 1) (w.heap.size + 1 + 1) (xs0 ++ absS (ls'.take (k + 1))) wr by
        have := hR.out
        rw [List.take_of_length_le (by rw [HST2.out.1]; exact Nat.le_refl _), ← HX1.out, List.append_assoc, ← HSK.out] at this
        exact this)
       clear hR
       go_wp2
       go_roundw
       case rel => exact ⟨k + 1, by omega, by go_num, HE.out⟩
       case measure => simp [intOf]; omega
    ·obtain rfl : k = n' := by omega
     have HE := Lib.hid (show DiR w A B n c m d (w.heap.size + 1) (w.heap.size + 1 + 1) (0 :: (([os, bs].take (s + 1)).flatMap absS)) wr by
      have := hR.out
      rw [List.take_of_length_le (by rw [HCS.out.1]; exact Nat.le_refl _), ← HSN.out] at this
      exact this)
     clear hR
     go_wp2
     go_roundw
     case rel => exact ⟨s + 1, by omega, by go_num, HE.out⟩
     case measure => simp [intOf]; omega
  ·obtain rfl : s = 2 := by omega
   obtain ⟨hBW, -, Ah, ch, hb5, hO, hg5⟩ := hR.out
   have hds : 0 :: (([os, bs].take 2).flatMap absS) = dists os bs := by simp [dists]
   rw [hds] at hb5 hO
   have hdl : (dists os bs).length ≤ 100 ∧ (dists os bs).length ≠ 0 := by
    have h1 := absS_len os fun l hl => (chk_ok (HO.out l hl)).2.1
    have h2 := absS_len bs fun l hl => (chk_ok (HB.out l hl)).2.1
    have h3 := HX.out.1
    have h4 := HY.out.1
    unfold dists
    rw [List.length_cons, List.length_append]
    omega
   have hdn : ∀ x ∈ dists os bs, x ≤ 1000000 := fun x hx => by
    have key : ∀ (up : Bool) (ls : List (List (Int × Int))), (∀ l ∈ ls, chk up l = 0) → x ∈ absS ls → x ≤ 1000000 := fun up ls hls hm => by
     obtain ⟨l, hl, hd⟩ := List.mem_flatMap.1 hm
     obtain ⟨s, hs, rfl⟩ := List.mem_map.1 hd
     have := (chk_ok (hls l hl)).2.2.2 s hs
     unfold Bad at this
     unfold absI
     split <;> omega
    rcases List.mem_cons.1 hx with rfl | hx
    ·omega
    ·rcases List.mem_append.1 hx with hx | hx
     ·exact key true os HO.out hx
     ·exact key false bs HB.out hx
   obtain ⟨hdl1, hdl2⟩ := hdl
   obtain ⟨g, cap, hv, hgb, hglt⟩ := World.ownsRow.form hO (by omega)
   simp at hv
   obtain ⟨rfl, rfl⟩ := hv
   obtain ⟨hH, hg1, hne⟩ := hO.holdsI hdl2
   have hne5 := hne _ _ _ hb5 (by decide)
   have c5 := hb5.cell 0
   simp at c5
   have hso := sort_ints g ch (w.heap.size + 1) (dists os bs) wr hH hg1 c5 hb5.lt hne5 (by omega)
   have HSO := Lib.hid hso
   have HBW := Lib.hid hBW
   have HB5 := Lib.hid hb5
   have HDN := Lib.hid hdn
   clear hR hH hO hso hne hds hBW hdn hb5
   go_wp2_with fail
   refine HSO.out.mono ?_
   rintro e w5 ⟨rfl, ps, hperm, hpw, hH5, hgr⟩
   have hB5 : Below w.heap.size w w5 := HBW.out.trans ⟨hgr.os, hgr.tape, hgr.output, hgr.size, fun k hk => hgr.block k (by have := HBW.out.size; omega) (by simp; omega)⟩
   have hbx5 : Blk w5 (w.heap.size + 1) 62 #[.slice (some ⟨g, 0, none⟩) (dists os bs).length ch] := (hgr.block _ HB5.out.lt (by simp; omega)).trans HB5.out
   have hpl : ps.length = (dists os bs).length := hperm.length_eq
   have hg5 : g < w5.heap.size := Nat.lt_of_lt_of_le hg1 hgr.size
   have HH5 := Lib.hid (fun j (hj : j < ps.length) => show w5.cell? ⟨g, j, none⟩ = some (.int .i64 (ps[j]?.getD 0)) by
    have := (hH5 j (by simpa using hj)).1
    rw [Nat.zero_add] at this
    rw [this]
    simp [hj, encI])
   have HPS := Lib.hid (And.intro hperm hpw)
   have HPB := Lib.hid (fun j (hj : j < ps.length) => show 0 ≤ ps[j]?.getD 0 ∧ ps[j]?.getD 0 ≤ 1000000 by
    have := hperm.mem_iff.1 (getD_mem (d := 0) hj)
    exact ⟨dists_nonneg this, HDN.out _ this⟩)
   rw [← hpl] at hbx5
   have c55 := hbx5.cell 0
   simp at c55
   have HB55 := Lib.hid hB5
   clear hperm hpw hH5 hgr hB5 hbx5 HSO HB5 HBW HDN
   rw [← hpl] at hdl1
   generalize hdd : (dists os bs).length = dl at *
   obtain rfl : dl = ps.length := by rw [← hpl]
   clear hdd hpl c5
   go_wp2_with fail
   go_step3
   go_wp2_with fail
   go_loopw [12, 56] (fun tp t wr => ∃ k : Nat, k ≤ ps.length ∧ t = .int .i64 k ∧ tp = .int .i64 0 ∧ Hid (PassK os bs ps k ∧ Below w5.heap.size w5 wr)) (fun _ t _ => ps.length - (intOf t).toNat)
   case atStart => exact ⟨0, Nat.zero_le _, rfl, rfl, fun j hj => by omega, Below.refl _ _⟩
   case round =>
    obtain ⟨k, hk, rfl, rfl, hR⟩ := hrel
    by_cases hlt4 : k < ps.length
    ·have cd := (hR.out.2.cell (p := ⟨g, k, none⟩) hg5).trans (HH5.out k hlt4)
     have hpb := HPB.out k hlt4
     generalize hde : ps[k]?.getD 0 = dd at *
     have HDE := Lib.hid hde
     clear hde
     have k1 : (0 : Int) ≤ (k : Int) := by omega
     have k2 : (k : Int) < (ps.length : Int) := by omega
     have HP := Lib.hid hR.out.1
     have hsb := Blk.new wr 2 #[.int .i64 1, .int .i64 (-1)]
     have kx := (Kp.refl wr).alloc (.cells #[.int .i64 1, .int .i64 (-1)] 2)
     have HK5 := Lib.hid (hR.out.2.trans (Below.mono kx hR.out.2.size))
     have HSB := Lib.hid hsb
     have HBX := Lib.hid hR.out.2
     clear hR hsb kx
     go_wp2_with fail
     obtain ⟨wv, hwv⟩ : ∃ v, v = wr := ⟨_, rfl⟩
     subst hwv
     generalize hWW : wv.alloc (.cells #[.int .i64 1, .int .i64 (-1)] 2) = WW at *
     go_loopw [12, 62] (fun tp t wr => ∃ s : Nat, s ≤ 2 ∧ t = .int .i64 s ∧ tp = .int .i64 0 ∧ Hid ((1 ≤ s → balB os bs ((dd : Int) : Rat) = false) ∧ (2 ≤ s → balB os bs ((-dd : Int) : Rat) = false) ∧ Kp WW wr)) (fun _ t _ => 2 - (intOf t).toNat)
     case atStart => exact ⟨0, Nat.zero_le _, rfl, rfl, fun h => by omega, fun h => by omega, Kp.refl _⟩
     case round =>
      obtain ⟨s, hs, rfl, rfl, hR⟩ := hrel
      have HR := Lib.hid hR.out
      clear hR
      obtain rfl | rfl | rfl : s = 0 ∨ s = 1 ∨ s = 2 := by omega
      ·have cs := (HR.out.2.2.blk HSB.out).cell 0
       simp at cs
       have xw : IntKind.i64.wrap (1 * dd) = dd := by rw [show 1 * dd = dd by omega]; exact IntWalk.i64_in _ (by omega)
       have xw2 : IntKind.i64.wrap (dd) = dd := IntWalk.i64_in _ (by omega)
       have HFI := Lib.hid (fun W => qfromInt64_any (dd) W (by omega) (by omega))
       have HBA := Lib.hid (fun W A2 A3 k2 c2 k3 c3 (hW : Below w.heap.size w W) (h2 : WQ W ((dd : Int) : Rat) A2 k2 c2 A3 k3 c3) => balances_any A B n c m d os bs _ false A2 A3 k2 c2 k3 c3 ((dd : Int) : Rat) W (HX.out.below hW) (HY.out.below hW) (h2.arg (by omega)) HO.out HB.out (by omega) (by omega))
       have HFD := Lib.hid (fun hbal => pass_found (p := dd) HPS.out.1 HPS.out.2 hlt4 HP.out hbal (Or.inl HDE.out.symm))
       have HKW := Lib.hid (HB55.out.trans ((HK5.out.trans (Below.mono HR.out.2.2 HK5.out.size)).mono HB55.out.size))
       generalize hbe : balB os bs ((dd : Int) : Rat) = bb at *
       have HBE := Lib.hid hbe
       clear hbe
       generalize ((dd : Int) : Rat) = pq at *
       go_wp2_with fail
       refine (HFI.out wr).mono ?_
       rintro e v1 ⟨A2, k2, c2, A3, k3, c3, rfl, h2, h3, hW2, hW3, -, -, hb1⟩
       have HV1 := Lib.hid (HKW.out.trans (hb1.mono HKW.out.size))
       have HV1k := Lib.hid (Kp.trans HR.out.2.2 hb1)
       have HC := Lib.hid (HBA.out v1 A2 A3 k2 c2 k3 c3 HV1.out ⟨h2, h3, hW2, hW3⟩)
       clear h2 h3 hW2 hW3 hb1 HFI HBA
       go_wp2_with fail
       refine HC.out.mono ?_
       rintro e v2 ⟨rfl, hb2⟩
       have HV2w := Lib.hid (HV1.out.trans (hb2.mono HV1.out.size))
       have HV2 := Lib.hid (Kp.trans HV1k.out hb2)
       clear hb2 HC HV1 HV1k
       cases bb
       ·have HBL := HBE
        clear HFD HBE
        go_wp2
        go_roundw
        case rel => exact ⟨1, by omega, rfl, rfl, fun _ => by first | trivial | rfl | exact HBL.out, fun h => by omega, HV2.out⟩
        case measure => simp [intOf]
       ·have HPZ := Lib.hid (HFD.out rfl)
        clear HFD HBE
        go_wp2
        rw [Exit.noGoto_ret]
        go_ret
        exact ⟨_, rfl, HPZ.out, HV2w.out⟩
      ·have cs := (HR.out.2.2.blk HSB.out).cell 1
       simp at cs
       have xw : IntKind.i64.wrap (-1 * dd) = -dd := by rw [show -1 * dd = -dd by omega]; exact IntWalk.i64_in _ (by omega)
       have xw2 : IntKind.i64.wrap (-dd) = -dd := IntWalk.i64_in _ (by omega)
       have HFI := Lib.hid (fun W => qfromInt64_any (-dd) W (by omega) (by omega))
       have HBA := Lib.hid (fun W A2 A3 k2 c2 k3 c3 (hW : Below w.heap.size w W) (h2 : WQ W ((-dd : Int) : Rat) A2 k2 c2 A3 k3 c3) => balances_any A B n c m d os bs _ false A2 A3 k2 c2 k3 c3 ((-dd : Int) : Rat) W (HX.out.below hW) (HY.out.below hW) (h2.arg (by omega)) HO.out HB.out (by omega) (by omega))
       have HFD := Lib.hid (fun hbal => pass_found (p := -dd) HPS.out.1 HPS.out.2 hlt4 HP.out hbal (Or.inr ⟨by rw [HDE.out], by rw [HDE.out]; exact HR.out.1 (by omega)⟩))
       have HKW := Lib.hid (HB55.out.trans ((HK5.out.trans (Below.mono HR.out.2.2 HK5.out.size)).mono HB55.out.size))
       generalize hbe : balB os bs ((-dd : Int) : Rat) = bb at *
       have HBE := Lib.hid hbe
       clear hbe
       generalize ((-dd : Int) : Rat) = pq at *
       go_wp2_with fail
       refine (HFI.out wr).mono ?_
       rintro e v1 ⟨A2, k2, c2, A3, k3, c3, rfl, h2, h3, hW2, hW3, -, -, hb1⟩
       have HV1 := Lib.hid (HKW.out.trans (hb1.mono HKW.out.size))
       have HV1k := Lib.hid (Kp.trans HR.out.2.2 hb1)
       have HC := Lib.hid (HBA.out v1 A2 A3 k2 c2 k3 c3 HV1.out ⟨h2, h3, hW2, hW3⟩)
       clear h2 h3 hW2 hW3 hb1 HFI HBA
       go_wp2_with fail
       refine HC.out.mono ?_
       rintro e v2 ⟨rfl, hb2⟩
       have HV2w := Lib.hid (HV1.out.trans (hb2.mono HV1.out.size))
       have HV2 := Lib.hid (Kp.trans HV1k.out hb2)
       clear hb2 HC HV1 HV1k
       cases bb
       ·have HBL := HBE
        clear HFD HBE
        go_wp2
        go_roundw
        case rel => exact ⟨2, by omega, rfl, rfl, fun _ => HR.out.1 (by omega), fun _ => by first | trivial | rfl | exact HBL.out, HV2.out⟩
        case measure => simp [intOf]
       ·have HPZ := Lib.hid (HFD.out rfl)
        clear HFD HBE
        go_wp2
        rw [Exit.noGoto_ret]
        go_ret
        exact ⟨_, rfl, HPZ.out, HV2w.out⟩
      ·have hps : PassK os bs ps (k + 1) := fun j hj => by
        by_cases hjk : j < k
        ·exact HP.out j hjk
        ·obtain rfl : j = k := by omega
         rw [HDE.out]
         exact ⟨HR.out.1 (by omega), HR.out.2.1 (by omega)⟩
       have HPN := Lib.hid hps
       have HKN := Lib.hid (HK5.out.trans (Below.mono HR.out.2.2 HK5.out.size))
       clear hps
       go_wp2
       go_roundw
       case rel => exact ⟨k + 1, by omega, by go_num, rfl, HPN.out, HKN.out⟩
       case measure => simp [intOf]; omega
    ·obtain rfl : k = ps.length := by omega
     have HPR := Lib.hid (pass_none HPS.out.1 hR.out.1)
     have HBF := Lib.hid (HB55.out.trans (hR.out.2.mono HB55.out.size))
     clear hR
     go_wp2
     rw [Exit.noGoto_ret]
     go_ret
     exact ⟨0, rfl, HPR.out, HBF.out⟩

end Go.Proofs.YtjajigkacccdgaaGreat
