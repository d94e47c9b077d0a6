/-
sort.Slice of the units' order in Fill of package reserve. No statement of the seat is proved here; no conditions beyond those of each theorem.
-/
import Derived.Test.YtodkhjihkkmplaaGreatLPP
import Derived.Test.YtodkhjihkkmplaaGreatLPA
import Derived.Shelf.GgSortFunc.Whole
namespace Go.Proofs.YtodkhjihkkmplaaGreat
set_option linter.unusedVariables false
set_option linter.unusedSimpArgs false
open Go.Shelf Go.RowKit Go.Lib Go.Sort
open Wd
def encF {m : Nat} (x : Fin (m + 1)) : Value := .int .i64 (x.1 : Int)
noncomputable def jT : TypeInfo := (Tryz.prog.info? 66).get (by kernel_rfl)
noncomputable def jE : TypeInfo := (Tryz.prog.info? 3).get (by kernel_rfl)
theorem jK (n : Nat) (h2 : 2 ≤ n) : Lib.swapperK n jE 2 = 5 := by
 have a : jE.hasPointers = false := by kernel_rfl
 have b : jE.bytes = 8 := by kernel_rfl
 have c : (n == 0) = false := by simp; omega
 have d : (n == 1) = false := by simp; omega
 simp [Lib.swapperK, a, b, c, d]
/-- The order of the units, as the code tells it. -/
def ltR (sp : Nat → Int) {m : Nat} (a b : Fin (m + 1)) : Bool := if (sp a.1 != sp b.1) = true then decide (sp a.1 < sp b.1) else decide (a.1 < b.1)
theorem ltR_iff {sp : Nat → Int} {m : Nat} {a b : Fin (m + 1)} : ltR sp a b = true ↔ Rv.Bef sp a.1 b.1 := by
 unfold ltR Rv.Bef
 by_cases h : sp a.1 = sp b.1
 ·simp [h]
 ·simp [h]
theorem swo_ltR (sp : Nat → Int) (m : Nat) : SWO (ltR sp (m := m)) where
 irrefl := by
  intro a
  rw [← Bool.not_eq_true, ltR_iff]
  intro h; exact h.asymm h
 trans := by
  intro a b c h1 h2
  rw [ltR_iff] at *
  unfold Rv.Bef at *
  omega
 ntrans := by
  intro a b c h1 h2
  rw [← Bool.not_eq_true, ltR_iff] at *
  unfold Rv.Bef at *
  omega
theorem grow_r {m : Nat} (w : World) (n blk : Nat) (d : Array (Fin (m + 1))) (os : Array Obj) : w.grownBy (grow (putRow encF (Sort.ahead w n) blk 0 d) os) (some blk) := by
 refine ⟨rfl, rfl, rfl, ?_, fun k hk hne => ?_⟩
 ·simp [grow, putRow, mapBlock]
 ·have hkb : blk ≠ k := fun e => hne (by rw [e])
  have e : (putRow encF (Sort.ahead w n) blk 0 d).heap[k]? = w.heap[k]? := by simp only [putRow, mapBlock, Array.getElem?_modify, if_neg hkb]; rfl
  rw [← e]
  simp only [grow]
  rw [Array.getElem?_append_left]
  simpa [putRow, mapBlock] using hk
section
variable {blk c Bs Bu b o cu size : Nat} {W : World} {G : Nat → Int} {sa sb : Int}
set_option maxRecDepth 100000
set_option maxHeartbeats 4000000 in
theorem rless_ne (hs : W.cell? ⟨Bs, 0, none⟩ = some (.slice (some ⟨blk, 0, none⟩) size c)) (hu : W.cell? ⟨Bu, 0, none⟩ = some (.slice (some ⟨b, o, none⟩) size cu)) (i j x y : Nat) (hi : i < size) (hj : j < size) (hsz : size < 4611686018427387904)
  (ci : W.cell? ⟨blk, i, none⟩ = some (.int .i64 (x : Int))) (cj : W.cell? ⟨blk, j, none⟩ = some (.int .i64 (y : Int))) (hx : x < size) (hy : y < size) (ux : W.cell? ⟨b, o + x * 9 + 7, none⟩ = some (.int .i64 sa)) (uy : W.cell? ⟨b, o + y * 9 + 7, none⟩ = some (.int .i64 sb)) (hne : (sa != sb) = true) :
  Calls Tryz.prog 43 #[.int .i64 i, .int .i64 j, .pointer (some ⟨Bs, 0, none⟩), .pointer (some ⟨Bu, 0, none⟩)] W fun e w' => e = .returned (.bool (decide (sa < sb))) ∧ ∃ q, w' = W.drewN q := by
 go_enter Tryz.func43, Tryz.ntmps43
 go_wp2
 go_quiet (fail)
 rename Nat => n1
 go_wp2
 go_quiet (fail)
 rename Nat => n2
 go_wp2
 go_quiet (fail)
 rename Nat => n3
 go_wp2
 go_ret
 exact ⟨rfl, n1 + (n2 + n3), by rw [World.drewN_drewN, World.drewN_drewN]⟩
set_option maxHeartbeats 4000000 in
theorem rless_eq (hs : W.cell? ⟨Bs, 0, none⟩ = some (.slice (some ⟨blk, 0, none⟩) size c)) (hu : W.cell? ⟨Bu, 0, none⟩ = some (.slice (some ⟨b, o, none⟩) size cu)) (i j x y : Nat) (hi : i < size) (hj : j < size) (hsz : size < 4611686018427387904)
  (ci : W.cell? ⟨blk, i, none⟩ = some (.int .i64 (x : Int))) (cj : W.cell? ⟨blk, j, none⟩ = some (.int .i64 (y : Int))) (hx : x < size) (hy : y < size) (ux : W.cell? ⟨b, o + x * 9 + 7, none⟩ = some (.int .i64 sa)) (uy : W.cell? ⟨b, o + y * 9 + 7, none⟩ = some (.int .i64 sb)) (hne : (sa != sb) = false) :
  Calls Tryz.prog 43 #[.int .i64 i, .int .i64 j, .pointer (some ⟨Bs, 0, none⟩), .pointer (some ⟨Bu, 0, none⟩)] W fun e w' => e = .returned (.bool (decide (x < y))) ∧ ∃ q, w' = W.drewN q := by
 go_enter Tryz.func43, Tryz.ntmps43
 go_wp2
 go_quiet (fail)
 rename Nat => n1
 go_wp2
 go_quiet (fail)
 rename Nat => n2
 go_wp2
 go_ret
 exact ⟨rfl, n1 + n2, by first | rfl | rw [World.drewN_drewN]⟩
end
theorem rless_any {blk c Bs Bu b o cu m : Nat} {W : World} {sp : Nat → Int} (hs : W.cell? ⟨Bs, 0, none⟩ = some (.slice (some ⟨blk, 0, none⟩) (m + 1) c)) (hu : W.cell? ⟨Bu, 0, none⟩ = some (.slice (some ⟨b, o, none⟩) (m + 1) cu)) (i j : Nat) (x y : Fin (m + 1)) (hi : i < m + 1) (hj : j < m + 1) (hsz : m + 1 < 4611686018427387904)
  (ci : W.cell? ⟨blk, i, none⟩ = some (encF x)) (cj : W.cell? ⟨blk, j, none⟩ = some (encF y)) (hc : ∀ t, t < m + 1 → W.cell? ⟨b, o + t * 9 + 7, none⟩ = some (.int .i64 (sp t))) :
  Calls Tryz.prog 43 #[.int .i64 i, .int .i64 j, .pointer (some ⟨Bs, 0, none⟩), .pointer (some ⟨Bu, 0, none⟩)] W fun e w' => e = .returned (.bool (ltR sp x y)) ∧ ∃ q, w' = W.drewN q := by
 unfold ltR
 cases h : (sp x.1 != sp y.1)
 ·simp only [Bool.false_eq_true, if_false]
  exact rless_eq hs hu i j x.1 y.1 hi hj hsz ci cj x.2 y.2 (hc _ x.2) (hc _ y.2) h
 ·simp only [if_true]
  exact rless_ne hs hu i j x.1 y.1 hi hj hsz ci cj x.2 y.2 (hc _ x.2) (hc _ y.2) h
theorem rsort (blk c Bs Bu b o cu m : Nat) (sp : Nat → Int) (ps : List (Fin (m + 1))) (w : World) (hl : ps.length = m + 1) (hH : Holds encF w blk 0 ps.toArray) (hblk : blk < w.heap.size) (hBs : w.cell? ⟨Bs, 0, none⟩ = some (.slice (some ⟨blk, 0, none⟩) (m + 1) c)) (hB1 : Bs < w.heap.size) (hB2 : Bs ≠ blk)
  (hBu : w.cell? ⟨Bu, 0, none⟩ = some (.slice (some ⟨b, o, none⟩) (m + 1) cu)) (hU1 : Bu < w.heap.size) (hU2 : Bu ≠ blk) (hb1 : b < w.heap.size) (hb2 : b ≠ blk) (hc : ∀ t, t < m + 1 → w.cell? ⟨b, o + t * 9 + 7, none⟩ = some (.int .i64 (sp t))) (hsz : m + 1 < 4611686018427387904) (h2 : 2 ≤ m + 1) :
  Calls Tryz.prog 42 #[.iface 66 (.slice (some ⟨blk, 0, none⟩) (m + 1) c), .func (.func 43) #[] #[.pointer (some ⟨Bs, 0, none⟩), .pointer (some ⟨Bu, 0, none⟩)]] w fun e w' =>
   e = .returned (.tuple #[]) ∧ ∃ ps' : List (Fin (m + 1)), ps'.Perm ps ∧ ps'.Pairwise (fun a b => ltR sp b a = false) ∧ Holds encF w' blk 0 ps'.toArray ∧ w.grownBy w' (some blk) := by
 have hz : ps.toArray.size = m + 1 := by simpa using hl
 have hless : LessReads Tryz.prog 43 #[.pointer (some ⟨Bs, 0, none⟩), .pointer (some ⟨Bu, 0, none⟩)] (encF (m := m)) (ltR sp (m := m)) blk 0 ps.toArray.size w := by
  intro m' os dk hs i j hi hj
  have e : sortWorld encF w blk 0 m' dk os = putRow encF (grow (Sort.ahead w m') os) blk 0 dk := by
   unfold sortWorld; rw [putRow_grow _ (Sort.ahead w m') _ blk 0 _ hblk]
  have hHg : Holds encF (grow (Sort.ahead w m') os) blk 0 ps.toArray := holds_grow _ _ _ blk 0 _ hblk (holds_ahead _ _ _ _ _ _ hH)
  have hHd := holds_putRow _ _ blk 0 ps.toArray dk hHg hs
  have cc : ∀ t, t < ps.toArray.size → (putRow encF (grow (Sort.ahead w m') os) blk 0 dk).cell? ⟨blk, t, none⟩ = some (encF dk[t]!) := fun t ht => by
   have := (hHd t (by omega)).1; rw [Nat.zero_add] at this; exact this
  rw [e]
  refine rless_any (c := c) (b := b) (o := o) (cu := cu) ?_ ?_ i j _ _ (by omega) (by omega) hsz (cc i hi) (cc j hj) (fun t ht => ?_)
  ·rw [cell?_putRow_other _ _ blk 0 dk _ (Or.inl (by exact hB2)), cell?_grow _ _ _ (by exact hB1)]; simpa using hBs
  ·rw [cell?_putRow_other _ _ blk 0 dk _ (Or.inl (by exact hU2)), cell?_grow _ _ _ (by exact hU1)]; simpa using hBu
  ·rw [cell?_putRow_other _ _ blk 0 dk _ (Or.inl (by exact hb2)), cell?_grow _ _ _ (by exact hb1)]; simpa using hc t ht
 have hS := Any.sort_Slice_sorted Tryz.laysGg6 66 3 jT jE (by kernel_rfl) (by kernel_rfl) (by kernel_rfl) (by kernel_rfl) 2 (fun _ => by kernel_rfl) (by kernel_rfl) (fun _ => by kernel_rfl) (encF (m := m)) (fun _ => rfl) (ltR sp (m := m)) (swo_ltR sp m) 43 _
  (enters_of Tryz.func43 (by kernel_rfl) rfl) blk 0 c ps.toArray (by omega) (by omega) 103 (by rw [jK _ (by omega)]; kernel_rfl) true
  (fun args W => run_callFunc_extern Tryz.func103 (by kernel_rfl) (by kernel_rfl) (by kernel_rfl) (e := Extern.ReflectliteSwapper.swap true) (by kernel_rfl) args W) w hless hH hblk
 rw [hz] at hS
 change Calls Tryz.prog 42 _ _ _ at hS
 refine hS.mono ?_
 rintro e w' ⟨rfl, d', n', os, hp, hso, rfl⟩
 obtain ⟨p1, _, p3⟩ := hp
 have hd : d'.size = m + 1 := p1.trans hz
 refine ⟨rfl, d'.toList, ?_, ?_, ?_, grow_r w n' blk d' os⟩
 ·have e1 : d'.extract 0 (m + 1) = d' := Array.extract_eq_self_of_le (by omega)
  have e2 : ps.toArray.extract 0 (m + 1) = ps.toArray := Array.extract_eq_self_of_le (by omega)
  rw [e1, e2] at p3
  simpa using p3
 ·rw [List.pairwise_iff_getElem]
  intro i j hi hj hij
  have := hso i j (Nat.zero_le _) hij (by simpa [hd] using hj)
  have hi' : i < d'.size := by simpa using hi
  have hj' : j < d'.size := by simpa using hj
  simpa [hi', hj'] using this
 ·have := holds_putRow encF (Sort.ahead w n') blk 0 ps.toArray d' (holds_ahead _ _ _ _ _ _ hH) (by simpa using p1)
  simpa using holds_grow encF _ os blk 0 _ (by simpa [putRow, mapBlock] using hblk) this
theorem rsort_tiny (blk c Bs Bu n : Nat) (w : World) (hn : n < 2) (hblk : blk < w.heap.size) :
  Calls Tryz.prog 42 #[.iface 66 (.slice (some ⟨blk, 0, none⟩) n c), .func (.func 43) #[] #[.pointer (some ⟨Bs, 0, none⟩), .pointer (some ⟨Bu, 0, none⟩)]] w fun e w' => e = .returned (.tuple #[]) ∧ Below w.heap.size w w' := by
 have ht : ∀ f, Tryz.prog.funcs.findIdx? (·.name == "internal/reflectlite" ++ ".Swapper$" ++ toString (Lib.swapperK n jE 2)) = some f → _ := fun f hf =>
  Any.sort_Slice_tiny Tryz.laysGg6 66 3 jT jE (by kernel_rfl) (by kernel_rfl) (by kernel_rfl) (by kernel_rfl) 2 (fun _ => by kernel_rfl) (some ⟨blk, 0, none⟩) n c (by omega) f hf (.func 43) #[] #[.pointer (some ⟨Bs, 0, none⟩), .pointer (some ⟨Bu, 0, none⟩)] w
 have hfin : Calls Tryz.prog 42 #[.iface 66 (.slice (some ⟨blk, 0, none⟩) n c), .func (.func 43) #[] #[.pointer (some ⟨Bs, 0, none⟩), .pointer (some ⟨Bu, 0, none⟩)]] w fun e w' => e = .returned (.tuple #[]) ∧ ∃ os, w' = grow w os := by
  rcases Nat.lt_or_ge n 1 with h0 | h1
  ·have e0 : n = 0 := by omega
   exact ht 99 (by rw [e0]; kernel_rfl)
  ·have e1 : n = 1 := by omega
   exact ht 100 (by rw [e1]; kernel_rfl)
 refine hfin.mono ?_
 rintro e w' ⟨rfl, os, rfl⟩
 exact ⟨rfl, rfl, rfl, rfl, by simp [grow], fun k hk => by simp only [grow]; rw [Array.getElem?_append_left hk]⟩

/-- The units' order is brought into order. -/
theorem sort_order (blk c Bs Bu cu n : Nat) (A : Option Addr) (sp : Nat → Int) (w : World) (hn : n < 4611686018427387904) (hH : ∀ t, t < n → w.cell? ⟨blk, t, none⟩ = some (.int .i64 (t : Int)) ∧ w.frozen? ⟨blk, t, none⟩ = false) (hblk : blk < w.heap.size)
  (hBs : w.cell? ⟨Bs, 0, none⟩ = some (.slice (some ⟨blk, 0, none⟩) n c)) (hB1 : Bs < w.heap.size) (hB2 : Bs ≠ blk)
  (hBu : w.cell? ⟨Bu, 0, none⟩ = some (.slice A n cu)) (hU1 : Bu < w.heap.size) (hU2 : Bu ≠ blk) (hc : n ≠ 0 → ∃ b o, A = some ⟨b, o, none⟩ ∧ b < w.heap.size ∧ b ≠ blk ∧ ∀ t, t < n → w.cell? ⟨b, o + t * 9 + 7, none⟩ = some (.int .i64 (sp t))) :
  Calls Tryz.prog 42 #[.iface 66 (.slice (some ⟨blk, 0, none⟩) n c), .func (.func 43) #[] #[.pointer (some ⟨Bs, 0, none⟩), .pointer (some ⟨Bu, 0, none⟩)]] w fun e w' =>
   e = .returned (.tuple #[]) ∧ ∃ ord : List Nat, Rv.Ord sp n ord ∧ (∀ t, t < n → w'.cell? ⟨blk, t, none⟩ = some (.int .i64 ((ord[t]?.getD 0 : Nat) : Int))) ∧ w.grownBy w' (some blk) := by
 by_cases h2 : 2 ≤ n
 ·obtain ⟨m, rfl⟩ : ∃ m, n = m + 1 := ⟨n - 1, by omega⟩
  obtain ⟨b, o, rfl, hb1, hb2, hcc⟩ := hc (by omega)
  have hfr : (List.finRange (m + 1)).length = m + 1 := List.length_finRange
  refine (rsort blk c Bs Bu b o cu m sp (List.finRange (m + 1)) w hfr ?_ hblk hBs hB1 hB2 hBu hU1 hU2 hb1 hb2 hcc hn h2).mono ?_
  ·intro t ht
   have ht' : t < m + 1 := by simpa [hfr] using ht
   have := hH t ht'
   have e : encF (List.finRange (m + 1)).toArray[t]! = .int .i64 (t : Int) := by
    rw [getElem!_pos _ t ht]
    simp [encF]
   rw [Nat.zero_add]
   refine ⟨?_, this.2⟩
   rw [this.1, ← e]
  ·rintro e w' ⟨rfl, ps', hp, hpw, hh, hgb⟩
   have hlen : ps'.length = m + 1 := by rw [hp.length_eq, hfr]
   refine ⟨rfl, ps'.map (·.1), ⟨?_, ?_⟩, fun t ht => ?_, hgb⟩
   ·have h1 := hp.map (fun x : Fin (m + 1) => x.1)
    have h3 : (List.finRange (m + 1)).map (fun x : Fin (m + 1) => x.1) = List.range (m + 1) := by
     apply List.ext_getElem
     ·simp
     ·intro i h4 h5; simp
    rw [h3] at h1
    exact h1
   ·rw [List.pairwise_map]
    have hnd : ps'.Nodup := hp.symm.nodup (List.nodup_finRange _)
    have hb := List.Pairwise.and hpw hnd
    refine hb.imp ?_
    rintro x y ⟨h1, h3⟩
    rw [← Bool.not_eq_true, ltR_iff] at h1
    have : x.1 ≠ y.1 := fun e => h3 (Fin.ext e)
    unfold Rv.Bef at *
    omega
   ·have := (hh t (by simpa [hlen] using ht)).1
    rw [Nat.zero_add] at this
    rw [this, getElem!_pos _ t (by simpa [hlen] using ht)]
    simp [encF, hlen, ht]
 ·refine (rsort_tiny blk c Bs Bu n w (by omega) hblk).mono ?_
  rintro e w' ⟨rfl, hb⟩
  refine ⟨rfl, List.range n, ⟨List.Perm.refl _, ?_⟩, fun t ht => ?_, ⟨hb.os, hb.tape, hb.output, hb.size, fun k hk _ => hb.block k hk⟩⟩
  ·rw [List.pairwise_iff_getElem]
   intro i j hi hj hij
   rw [List.length_range] at hi hj
   omega
  ·rw [hb.cell hblk, (hH t ht).1]
   simp [ht]

end Go.Proofs.YtodkhjihkkmplaaGreat
