/-
MergeOffers and MergeBids of package stack. No statement of the seat is proved here; no conditions beyond those of each theorem.
-/
import Derived.Test.YtjajigkacccdgaaGreatTaAV
import Derived.Test.YtjajigkacccdgaaGreatTaAW
namespace Go.Proofs.YtjajigkacccdgaaGreat
set_option linter.unusedVariables false
set_option linter.unusedSimpArgs false
open Go.Shelf Go.RowKit Go.Lib Go.Sort
open Wd

noncomputable def lvT : TypeInfo := (Tryz.prog.info? 30).get (by kernel_rfl)
noncomputable def lvE : TypeInfo := (Tryz.prog.info? 64).get (by kernel_rfl)
theorem lvK (n : Nat) (h2 : 2 ≤ n) : Lib.swapperK n lvE 25 = 9 := by
 have a : lvE.hasPointers = true := by kernel_rfl
 have b : lvE.bytes = 40 := by kernel_rfl
 have c : (n == 0) = false := by simp; omega
 have d : (n == 1) = false := by simp; omega
 simp [Lib.swapperK, a, b, c, d]
theorem grow_lv (m : Nat) (T : List St.Tr) (w : World) (n blk : Nat) (d : Array (Int × Nat)) (os : Array Obj) : w.grownBy (grow (putRowK (encL m T) 3 (Sort.ahead w n) blk 0 d) os) (some blk) := by
 refine ⟨rfl, rfl, rfl, ?_, fun k hk hne => ?_⟩
 ·simp [grow, putRowK, putRow, mapBlock]
 ·have hkb : blk ≠ k := fun e => hne (by rw [e])
  have e : (putRowK (encL m T) 3 (Sort.ahead w n) blk 0 d).heap[k]? = w.heap[k]? := by simp only [putRowK, putRow, mapBlock, Array.getElem?_modify, if_neg hkb]; rfl
  rw [← e]
  simp only [grow]
  rw [Array.getElem?_append_left]
  simpa [putRowK, putRow, mapBlock] using hk


def ltO (a b : Int × Nat) : Bool := decide (a.1 < b.1)
theorem swo_ltO : SWO ltO where
 irrefl := by intro a; simp [ltO]
 trans := by intro a b c h1 h2; simp [ltO] at *; omega
 ntrans := by intro a b c h1 h2; simp [ltO] at *; omega
set_option maxHeartbeats 2000000 in
theorem less_offers (blk c Bs size : Nat) (W : World) (G : Nat → Int) (hs : W.cell? ⟨Bs, 0, none⟩ = some (.slice (some ⟨blk, 0, none⟩) size c))
  (hc : ∀ t, t < size → W.cell? ⟨blk, t * 3, none⟩ = some (.int .i64 (G t))) (i j : Nat) (hi : i < size) (hj : j < size) (_hsz : size < 4611686018427387904) :
  Calls Tryz.prog 72 #[.int .i64 i, .int .i64 j, .pointer (some ⟨Bs, 0, none⟩)] W fun e w' => e = .returned (.bool (decide (G i < G j))) ∧ ∃ q, w' = W.drewN q := by
 have ci := hc i hi
 have cj := hc j hj
 clear hc
 go_enter Tryz.func72, Tryz.ntmps72
 go_wp2
 go_quiet (fail)
 rename Nat => n1
 go_wp2
 go_ret
 exact ⟨rfl, n1, rfl⟩
theorem sort_offers (n : Nat) (T : List St.Tr) (blk c Bs : Nat) (ps : List (Int × Nat)) (w : World) (hH : HoldsK (encL n T) 3 w blk 0 ps.toArray) (hblk : blk < w.heap.size) (hBs : w.cell? ⟨Bs, 0, none⟩ = some (.slice (some ⟨blk, 0, none⟩) ps.length c)) (hB1 : Bs < w.heap.size) (hB2 : Bs ≠ blk) (hsz : ps.length < 4611686018427387904) :
  Calls Tryz.prog 71 #[.iface 30 (.slice (some ⟨blk, 0, none⟩) ps.length c), .func (.func 72) #[] #[.pointer (some ⟨Bs, 0, none⟩)]] w fun e w' =>
   e = .returned (.tuple #[]) ∧ ∃ ps' : List (Int × Nat), ps'.Perm ps ∧ ps'.Pairwise (fun a b => ltO b a = false) ∧ HoldsK (encL n T) 3 w' blk 0 ps'.toArray ∧ w.grownBy w' (some blk) := by
 by_cases h2 : 2 ≤ ps.length
 ·have hless : LessReadsK Tryz.prog 72 #[.pointer (some ⟨Bs, 0, none⟩)] (encL n T) 3 ltO blk 0 ps.toArray.size w := by
   intro m os dk hs i j hi hj
   have e : sortWorldK (encL n T) 3 w blk 0 m dk os = putRowK (encL n T) 3 (grow (Sort.ahead w m) os) blk 0 dk := by
    unfold sortWorldK; rw [putRowK_grow _ _ (Sort.ahead w m) _ blk 0 _ hblk]
   have hHg : HoldsK (encL n T) 3 (grow (Sort.ahead w m) os) blk 0 ps.toArray := holdsK_grow _ _ _ _ blk 0 _ hblk (holdsK_ahead _ _ _ _ _ _ _ hH)
   have hHd := holdsK_putRowK _ _ _ blk 0 ps.toArray dk hHg hs
   refine less_offers blk c Bs ps.toArray.size _ (fun t => dk[t]!.1) ?_ (fun t ht => ?_) i j hi hj (by simpa using hsz)
   ·rw [e, cell?_putRowK_other _ _ _ blk 0 dk _ (by exact hB2), cell?_grow _ _ _ (by exact hB1)]; simpa using hBs
   ·rw [e]; have := (hHd.cell (i := t) (c := 0) (by omega) (by omega)).1; rw [Nat.zero_add] at this; exact this
  have hS := Any.sort_Slice_cells_sorted Tryz.laysGg6 30 64 lvT lvE (by kernel_rfl) (by kernel_rfl) (by kernel_rfl) (by kernel_rfl) 25 (fun _ => by kernel_rfl) (encL n T) 3 (fun _ => rfl) (by kernel_rfl) (fun _ => by kernel_rfl)
   (fun x v hv => by simp [encL] at hv; rcases hv with rfl | rfl | rfl <;> rfl) ltO swo_ltO 72 _
   (enters_of Tryz.func72 (by kernel_rfl) rfl) blk 0 c ps.toArray (by simpa using h2) (by simpa using hsz) 166 (by rw [lvK _ (by simpa using h2)]; kernel_rfl) false
   (fun args W => run_callFunc_extern Tryz.func166 (by kernel_rfl) (by kernel_rfl) (by kernel_rfl) (e := Extern.ReflectliteSwapper.swap false) (by kernel_rfl) args W) w hless hH hblk
  have hz : ps.toArray.size = ps.length := by simp
  rw [hz] at hS
  change Calls Tryz.prog 71 _ _ _ at hS
  refine hS.mono ?_
  rintro e w' ⟨rfl, d', n', os, hp, hso, rfl⟩
  obtain ⟨p1, _, p3⟩ := hp
  have hd : d'.size = ps.length := by simpa using p1
  refine ⟨rfl, d'.toList, ?_, ?_, ?_, grow_lv n T w n' blk d' os⟩
  ·have e1 : d'.extract 0 ps.length = d' := by rw [← hd]; simp
   have e2 : ps.toArray.extract 0 ps.length = ps.toArray := by rw [← hz]; simp
   rw [e1, e2] at p3
   simpa using p3
  ·rw [List.pairwise_iff_getElem]
   intro i j hi hj hij
   have := hso i j (Nat.zero_le _) hij (by simpa [hd] using hj)
   have hi' : i < d'.size := by simpa using hi
   have hj' : j < d'.size := by simpa using hj
   simpa [hi', hj'] using this
  ·have := holdsK_putRowK (encL n T) 3 (Sort.ahead w n') blk 0 ps.toArray d' (holdsK_ahead _ _ _ _ _ _ _ hH) (by simpa using p1)
   simpa using holdsK_grow (encL n T) 3 _ os blk 0 _ (by simpa [putRowK] using hblk) this
 ·have ht : ∀ f, Tryz.prog.funcs.findIdx? (·.name == "internal/reflectlite" ++ ".Swapper$" ++ toString (Lib.swapperK ps.length lvE 25)) = some f → _ := fun f hf =>
   Any.sort_Slice_tiny Tryz.laysGg6 30 64 lvT lvE (by kernel_rfl) (by kernel_rfl) (by kernel_rfl) (by kernel_rfl) 25 (fun _ => by kernel_rfl) (some ⟨blk, 0, none⟩) ps.length c (by omega) f hf (.func 72) #[] #[.pointer (some ⟨Bs, 0, none⟩)] w
  have hfin : Calls Tryz.prog 71 #[.iface 30 (.slice (some ⟨blk, 0, none⟩) ps.length c), .func (.func 72) #[] #[.pointer (some ⟨Bs, 0, none⟩)]] w fun e w' => e = .returned (.tuple #[]) ∧ ∃ os, w' = grow w os := by
   rcases Nat.lt_or_ge ps.length 1 with h0 | h1
   ·have e0 : ps.length = 0 := by omega
    exact ht 158 (by rw [e0]; kernel_rfl)
   ·have e1 : ps.length = 1 := by omega
    exact ht 159 (by rw [e1]; kernel_rfl)
  refine hfin.mono ?_
  rintro e w' ⟨rfl, os, rfl⟩
  refine ⟨rfl, ps, List.Perm.refl _, ?_, holdsK_grow (encL n T) 3 w os blk 0 _ hblk hH, ⟨rfl, rfl, rfl, by simp [grow], fun k hk _ => by simp only [grow]; rw [Array.getElem?_append_left hk]⟩⟩
  match ps, h2 with
  | [], _ => exact List.Pairwise.nil
  | [x], _ => exact List.pairwise_singleton _ _
  | _ :: _ :: _, h => exact absurd (by simp) h

def ltB (a b : Int × Nat) : Bool := decide (b.1 < a.1)
theorem swo_ltB : SWO ltB where
 irrefl := by intro a; simp [ltB]
 trans := by intro a b c h1 h2; simp [ltB] at *; omega
 ntrans := by intro a b c h1 h2; simp [ltB] at *; omega
set_option maxHeartbeats 2000000 in
theorem less_bids (blk c Bs size : Nat) (W : World) (G : Nat → Int) (hs : W.cell? ⟨Bs, 0, none⟩ = some (.slice (some ⟨blk, 0, none⟩) size c))
  (hc : ∀ t, t < size → W.cell? ⟨blk, t * 3, none⟩ = some (.int .i64 (G t))) (i j : Nat) (hi : i < size) (hj : j < size) (_hsz : size < 4611686018427387904) :
  Calls Tryz.prog 74 #[.int .i64 i, .int .i64 j, .pointer (some ⟨Bs, 0, none⟩)] W fun e w' => e = .returned (.bool (decide (G j < G i))) ∧ ∃ q, w' = W.drewN q := by
 have ci := hc i hi
 have cj := hc j hj
 clear hc
 go_enter Tryz.func74, Tryz.ntmps74
 go_wp2
 go_quiet (fail)
 rename Nat => n1
 go_wp2
 go_ret
 exact ⟨rfl, n1, rfl⟩
theorem sort_bids (n : Nat) (T : List St.Tr) (blk c Bs : Nat) (ps : List (Int × Nat)) (w : World) (hH : HoldsK (encL n T) 3 w blk 0 ps.toArray) (hblk : blk < w.heap.size) (hBs : w.cell? ⟨Bs, 0, none⟩ = some (.slice (some ⟨blk, 0, none⟩) ps.length c)) (hB1 : Bs < w.heap.size) (hB2 : Bs ≠ blk) (hsz : ps.length < 4611686018427387904) :
  Calls Tryz.prog 71 #[.iface 30 (.slice (some ⟨blk, 0, none⟩) ps.length c), .func (.func 74) #[] #[.pointer (some ⟨Bs, 0, none⟩)]] w fun e w' =>
   e = .returned (.tuple #[]) ∧ ∃ ps' : List (Int × Nat), ps'.Perm ps ∧ ps'.Pairwise (fun a b => ltB b a = false) ∧ HoldsK (encL n T) 3 w' blk 0 ps'.toArray ∧ w.grownBy w' (some blk) := by
 by_cases h2 : 2 ≤ ps.length
 ·have hless : LessReadsK Tryz.prog 74 #[.pointer (some ⟨Bs, 0, none⟩)] (encL n T) 3 ltB blk 0 ps.toArray.size w := by
   intro m os dk hs i j hi hj
   have e : sortWorldK (encL n T) 3 w blk 0 m dk os = putRowK (encL n T) 3 (grow (Sort.ahead w m) os) blk 0 dk := by
    unfold sortWorldK; rw [putRowK_grow _ _ (Sort.ahead w m) _ blk 0 _ hblk]
   have hHg : HoldsK (encL n T) 3 (grow (Sort.ahead w m) os) blk 0 ps.toArray := holdsK_grow _ _ _ _ blk 0 _ hblk (holdsK_ahead _ _ _ _ _ _ _ hH)
   have hHd := holdsK_putRowK _ _ _ blk 0 ps.toArray dk hHg hs
   refine less_bids blk c Bs ps.toArray.size _ (fun t => dk[t]!.1) ?_ (fun t ht => ?_) i j hi hj (by simpa using hsz)
   ·rw [e, cell?_putRowK_other _ _ _ blk 0 dk _ (by exact hB2), cell?_grow _ _ _ (by exact hB1)]; simpa using hBs
   ·rw [e]; have := (hHd.cell (i := t) (c := 0) (by omega) (by omega)).1; rw [Nat.zero_add] at this; exact this
  have hS := Any.sort_Slice_cells_sorted Tryz.laysGg6 30 64 lvT lvE (by kernel_rfl) (by kernel_rfl) (by kernel_rfl) (by kernel_rfl) 25 (fun _ => by kernel_rfl) (encL n T) 3 (fun _ => rfl) (by kernel_rfl) (fun _ => by kernel_rfl)
   (fun x v hv => by simp [encL] at hv; rcases hv with rfl | rfl | rfl <;> rfl) ltB swo_ltB 74 _
   (enters_of Tryz.func74 (by kernel_rfl) rfl) blk 0 c ps.toArray (by simpa using h2) (by simpa using hsz) 166 (by rw [lvK _ (by simpa using h2)]; kernel_rfl) false
   (fun args W => run_callFunc_extern Tryz.func166 (by kernel_rfl) (by kernel_rfl) (by kernel_rfl) (e := Extern.ReflectliteSwapper.swap false) (by kernel_rfl) args W) w hless hH hblk
  have hz : ps.toArray.size = ps.length := by simp
  rw [hz] at hS
  change Calls Tryz.prog 71 _ _ _ at hS
  refine hS.mono ?_
  rintro e w' ⟨rfl, d', n', os, hp, hso, rfl⟩
  obtain ⟨p1, _, p3⟩ := hp
  have hd : d'.size = ps.length := by simpa using p1
  refine ⟨rfl, d'.toList, ?_, ?_, ?_, grow_lv n T w n' blk d' os⟩
  ·have e1 : d'.extract 0 ps.length = d' := by rw [← hd]; simp
   have e2 : ps.toArray.extract 0 ps.length = ps.toArray := by rw [← hz]; simp
   rw [e1, e2] at p3
   simpa using p3
  ·rw [List.pairwise_iff_getElem]
   intro i j hi hj hij
   have := hso i j (Nat.zero_le _) hij (by simpa [hd] using hj)
   have hi' : i < d'.size := by simpa using hi
   have hj' : j < d'.size := by simpa using hj
   simpa [hi', hj'] using this
  ·have := holdsK_putRowK (encL n T) 3 (Sort.ahead w n') blk 0 ps.toArray d' (holdsK_ahead _ _ _ _ _ _ _ hH) (by simpa using p1)
   simpa using holdsK_grow (encL n T) 3 _ os blk 0 _ (by simpa [putRowK] using hblk) this
 ·have ht : ∀ f, Tryz.prog.funcs.findIdx? (·.name == "internal/reflectlite" ++ ".Swapper$" ++ toString (Lib.swapperK ps.length lvE 25)) = some f → _ := fun f hf =>
   Any.sort_Slice_tiny Tryz.laysGg6 30 64 lvT lvE (by kernel_rfl) (by kernel_rfl) (by kernel_rfl) (by kernel_rfl) 25 (fun _ => by kernel_rfl) (some ⟨blk, 0, none⟩) ps.length c (by omega) f hf (.func 74) #[] #[.pointer (some ⟨Bs, 0, none⟩)] w
  have hfin : Calls Tryz.prog 71 #[.iface 30 (.slice (some ⟨blk, 0, none⟩) ps.length c), .func (.func 74) #[] #[.pointer (some ⟨Bs, 0, none⟩)]] w fun e w' => e = .returned (.tuple #[]) ∧ ∃ os, w' = grow w os := by
   rcases Nat.lt_or_ge ps.length 1 with h0 | h1
   ·have e0 : ps.length = 0 := by omega
    exact ht 158 (by rw [e0]; kernel_rfl)
   ·have e1 : ps.length = 1 := by omega
    exact ht 159 (by rw [e1]; kernel_rfl)
  refine hfin.mono ?_
  rintro e w' ⟨rfl, os, rfl⟩
  refine ⟨rfl, ps, List.Perm.refl _, ?_, holdsK_grow (encL n T) 3 w os blk 0 _ hblk hH, ⟨rfl, rfl, rfl, by simp [grow], fun k hk _ => by simp only [grow]; rw [Array.getElem?_append_left hk]⟩⟩
  match ps, h2 with
  | [], _ => exact List.Pairwise.nil
  | [x], _ => exact List.pairwise_singleton _ _
  | _ :: _ :: _, h => exact absurd (by simp) h

theorem flat_get (n : Nat) (T : List St.Tr) : ∀ (D : List (Int × Nat)) (j c : Nat), j < D.length → c < 3 → (D.flatMap (encL n T))[j * 3 + c]? = (encL n T (D[j]?.getD (0, 0)))[c]?
 | [], j, c, hj, _ => absurd hj (by simp)
 | d :: D, 0, c, _, hc => by
  rw [List.flatMap_cons, List.getElem?_append_left (by rw [encL_len]; omega), Nat.zero_mul, Nat.zero_add]
  rfl
 | d :: D, j + 1, c, hj, hc => by
  rw [List.flatMap_cons, List.getElem?_append_right (by rw [encL_len]; omega), encL_len, show (j + 1) * 3 + c - 3 = j * 3 + c by omega, flat_get n T D j c (by simpa using hj) hc]
  rfl
theorem Own.holds {base n : Nat} {T : List St.Tr} {w : World} {g cap : Nat} {D : List (Int × Nat)} (h : Own base 64 3 w (some ⟨g, 0, none⟩) D.length cap (D.flatMap (encL n T))) : HoldsK (encL n T) 3 w g 0 D.toArray ∧ base ≤ g ∧ g < w.heap.size := by
 obtain ⟨g', cap', cur, hv, hb, hg, _⟩ : ∃ g' cap' cur, (Value.slice (some ⟨g, 0, none⟩) D.length cap) = .slice (some ⟨g', 0, none⟩) D.length cap' ∧ base ≤ g' ∧ w.heap[g']? = some (.cells cur 64 (0, 0)) ∧ True := by
  rcases h.2 with ⟨h7, _⟩ | ⟨g', cap', cur', h7, h8, h9, _⟩
  ·simp at h7
  ·exact ⟨g', cap', cur', h7, h8, h9, trivial⟩
 simp at hv
 obtain ⟨rfl, rfl⟩ := hv
 refine ⟨fun j hj => ?_, hb, (Array.getElem?_eq_some_iff.1 hg).1⟩
 have hj' : j < D.length * 3 := by simpa using hj
 rw [get_flatK _ _ _ _ (by simpa using hj')]
 have hd : j / 3 < D.length := by omega
 have h3 : j % 3 < 3 := Nat.mod_lt _ (by omega)
 have eg : D.toArray[j / 3]! = D[j / 3]?.getD (0, 0) := by
  simp [hd, List.getElem?_eq_getElem hd]
 refine ⟨?_, Blk.frozen (t := 64) hg _⟩
 rw [Nat.zero_add, World.ownsRow.cellAt h j (by omega)]
 have ej : j = j / 3 * 3 + j % 3 := by omega
 have := flat_get n T D (j / 3) (j % 3) hd h3
 rw [← ej] at this
 rw [this, eg, List.getElem?_eq_getElem (by rw [encL_len]; exact h3), getElem!_pos _ _ (by rw [encL_len]; exact h3)]
 rfl

end Go.Proofs.YtjajigkacccdgaaGreat
