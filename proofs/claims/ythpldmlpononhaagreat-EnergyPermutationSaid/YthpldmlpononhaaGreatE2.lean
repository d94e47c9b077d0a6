/-
The sort of the pieces in package energy's Allocate. No statement of the seat is proved here; no conditions beyond those of each theorem.
-/
import Derived.Test.YthpldmlpononhaaGreatMem
import Derived.Test.YthpldmlpononhaaGreatEQ
import Derived.Test.YthpldmlpononhaaGreatSh
namespace Go.Proofs.YthpldmlpononhaaGreat
set_option linter.unusedVariables false
set_option linter.unusedSimpArgs false
open Go.Shelf Go.RowKit Go.Lib Go.Sort
open En

def encP (p : Pc) : List Value := [.int .i64 (p.1 : Int), .int .i64 p.2.1, .int .i64 p.2.2]
theorem swo_ltP : SWO ltP where
  irrefl := by intro a; simp [ltP]
  trans := by
    intro a b c h1 h2
    unfold ltP at *
    by_cases e1 : a.2.2 = b.2.2 <;> by_cases e2 : b.2.2 = c.2.2 <;> by_cases e3 : a.2.2 = c.2.2 <;> simp_all <;> omega
  ntrans := by
    intro a b c h1 h2
    unfold ltP at *
    by_cases e1 : a.2.2 = b.2.2 <;> by_cases e2 : b.2.2 = c.2.2 <;> by_cases e3 : a.2.2 = c.2.2 <;> simp_all <;> omega

noncomputable def pcT : TypeInfo := (Tryz.prog.info? 108).get (by kernel_rfl)
noncomputable def pcE : TypeInfo := (Tryz.prog.info? 106).get (by kernel_rfl)
theorem pcK (n : Nat) (h2 : 2 ≤ n) : Lib.swapperK n pcE 25 = 9 := by
  have a : pcE.hasPointers = false := by kernel_rfl
  have b : pcE.bytes = 24 := by kernel_rfl
  have c : (n == 0) = false := by simp; omega
  have d : (n == 1) = false := by simp; omega
  simp [Lib.swapperK, a, b, c, d]

set_option maxHeartbeats 2000000 in
theorem less_ne (blk c Bs size : Nat) (W : World) (G : Nat → Int) (hs : W.cell? ⟨Bs, 0, none⟩ = some (.slice (some ⟨blk, 0, none⟩) size c))
    (hc : ∀ t, t < size → W.cell? ⟨blk, t * 3 + 2, none⟩ = some (.int .i64 (G t))) (i j : Nat) (hi : i < size) (hj : j < size) (_hsz : size < 4611686018427387904) (hne : (G i != G j) = true) :
    Calls Tryz.prog 88 #[.int .i64 i, .int .i64 j, .pointer (some ⟨Bs, 0, none⟩)] W fun e w' => e = .returned (.bool (decide (G i < G j))) ∧ ∃ q, w' = W.drewN q := by
  have ci := hc i hi
  have cj := hc j hj
  clear hc
  go_enter Tryz.func88, Tryz.ntmps88
  go_wp2
  go_quiet (fail)
  rename Nat => n1
  go_wp2
  go_quiet (fail)
  rename Nat => n2
  go_wp2
  go_ret
  exact ⟨rfl, n1 + n2, World.drewN_drewN _ _ _⟩
set_option maxHeartbeats 2000000 in
theorem less_eq (blk c Bs size : Nat) (W : World) (G U : Nat → Int) (hs : W.cell? ⟨Bs, 0, none⟩ = some (.slice (some ⟨blk, 0, none⟩) size c))
    (hc : ∀ t, t < size → W.cell? ⟨blk, t * 3 + 2, none⟩ = some (.int .i64 (G t))) (hu : ∀ t, t < size → W.cell? ⟨blk, t * 3, none⟩ = some (.int .i64 (U t))) (i j : Nat) (hi : i < size) (hj : j < size) (_hsz : size < 4611686018427387904) (hne : (G i != G j) = false) :
    Calls Tryz.prog 88 #[.int .i64 i, .int .i64 j, .pointer (some ⟨Bs, 0, none⟩)] W fun e w' => e = .returned (.bool (decide (U j < U i))) ∧ ∃ q, w' = W.drewN q := by
  have ci := hc i hi
  have cj := hc j hj
  have ui := hu i hi
  have uj := hu j hj
  clear hc hu
  go_enter Tryz.func88, Tryz.ntmps88
  go_wp2
  go_quiet (fail)
  rename Nat => n1
  go_wp2
  go_quiet (fail)
  rename Nat => n2
  go_wp2
  go_ret
  exact ⟨rfl, n1 + n2, World.drewN_drewN _ _ _⟩
theorem less_any (blk c Bs size : Nat) (W : World) (d : Nat → Pc) (hs : W.cell? ⟨Bs, 0, none⟩ = some (.slice (some ⟨blk, 0, none⟩) size c))
    (hc : ∀ t, t < size → W.cell? ⟨blk, t * 3 + 2, none⟩ = some (.int .i64 (d t).2.2)) (hu : ∀ t, t < size → W.cell? ⟨blk, t * 3, none⟩ = some (.int .i64 ((d t).1 : Int))) (i j : Nat) (hi : i < size) (hj : j < size) (hsz : size < 4611686018427387904) :
    Calls Tryz.prog 88 #[.int .i64 i, .int .i64 j, .pointer (some ⟨Bs, 0, none⟩)] W fun e w' => e = .returned (.bool (ltP (d i) (d j))) ∧ ∃ q, w' = W.drewN q := by
  by_cases h : (d i).2.2 = (d j).2.2
  · have e : ltP (d i) (d j) = decide (((d j).1 : Int) < ((d i).1 : Int)) := by unfold ltP; rw [if_neg (by simpa using h)]; simp
    rw [e]
    exact less_eq blk c Bs size W (fun t => (d t).2.2) (fun t => ((d t).1 : Int)) hs hc hu i j hi hj hsz (by simpa using h)
  · have e : ltP (d i) (d j) = decide ((d i).2.2 < (d j).2.2) := by unfold ltP; rw [if_pos h]
    rw [e]
    exact less_ne blk c Bs size W (fun t => (d t).2.2) hs hc i j hi hj hsz (by simpa using h)

theorem grow_by (w : World) (n blk : Nat) (d : Array Pc) (os : Array Obj) : w.grownBy (grow (putRowK encP 3 (Sort.ahead w n) blk 0 d) os) (some blk) := by
  refine ⟨rfl, rfl, rfl, ?_, fun k hk hne => ?_⟩
  · simp [grow, putRowK, putRow, mapBlock]
  · have hkb : blk ≠ k := fun e => hne (by rw [e])
    have e : (putRowK encP 3 (Sort.ahead w n) blk 0 d).heap[k]? = w.heap[k]? := by simp only [putRowK, putRow, mapBlock, Array.getElem?_modify, if_neg hkb]; rfl
    rw [← e]
    simp only [grow]
    rw [Array.getElem?_append_left]
    simpa [putRowK, putRow, mapBlock] using hk

theorem esort (blk c Bs : Nat) (ps : List Pc) (w : World) (hH : HoldsK encP 3 w blk 0 ps.toArray) (hblk : blk < w.heap.size) (hBs : w.cell? ⟨Bs, 0, none⟩ = some (.slice (some ⟨blk, 0, none⟩) ps.length c)) (hB1 : Bs < w.heap.size) (hB2 : Bs ≠ blk) (hsz : ps.length < 4611686018427387904) :
    Calls Tryz.prog 64 #[.iface 108 (.slice (some ⟨blk, 0, none⟩) ps.length c), .func (.func 88) #[] #[.pointer (some ⟨Bs, 0, none⟩)]] w fun e w' =>
      e = .returned (.tuple #[]) ∧ ∃ ps' : List Pc, ps'.Perm ps ∧ ps'.Pairwise (fun a b => ltP b a = false) ∧ HoldsK encP 3 w' blk 0 ps'.toArray ∧ w.grownBy w' (some blk) := by
  by_cases h2 : 2 ≤ ps.length
  · have hless : LessReadsK Tryz.prog 88 #[.pointer (some ⟨Bs, 0, none⟩)] encP 3 ltP blk 0 ps.toArray.size w := by
      intro m os dk hs i j hi hj
      have e : sortWorldK encP 3 w blk 0 m dk os = putRowK encP 3 (grow (Sort.ahead w m) os) blk 0 dk := by
        unfold sortWorldK; rw [putRowK_grow _ _ (Sort.ahead w m) _ blk 0 _ hblk]
      have hHg : HoldsK encP 3 (grow (Sort.ahead w m) os) blk 0 ps.toArray := holdsK_grow _ _ _ _ blk 0 _ hblk (holdsK_ahead _ _ _ _ _ _ _ hH)
      have hHd := holdsK_putRowK _ _ _ blk 0 ps.toArray dk hHg hs
      refine less_any blk c Bs ps.toArray.size _ (fun t => dk[t]!) ?_ (fun t ht => ?_) (fun t ht => ?_) i j hi hj (by simpa using hsz)
      · rw [e, cell?_putRowK_other _ _ _ blk 0 dk _ (by exact hB2), cell?_grow _ _ _ (by exact hB1)]; simpa using hBs
      · rw [e]; have := (hHd.cell (i := t) (c := 2) (by omega) (by omega)).1; rw [Nat.zero_add] at this; exact this
      · rw [e]; have := (hHd.cell (i := t) (c := 0) (by omega) (by omega)).1; rw [Nat.zero_add] at this; exact this
    have hS := Any.sort_Slice_cells_sorted Tryz.laysGg6 108 106 pcT pcE (by kernel_rfl) (by kernel_rfl) (by kernel_rfl) (by kernel_rfl) 25 (fun _ => by kernel_rfl) encP 3 (fun _ => rfl) (by kernel_rfl) (fun _ => by kernel_rfl)
      (fun x v hv => by simp [encP] at hv; rcases hv with rfl | rfl | rfl <;> rfl) ltP swo_ltP 88 _
      (enters_of Tryz.func88 (by kernel_rfl) rfl) blk 0 c ps.toArray (by simpa using h2) (by simpa using hsz) 137 (by rw [pcK _ (by simpa using h2)]; kernel_rfl) false
      (fun args W => run_callFunc_extern Tryz.func137 (by kernel_rfl) (by kernel_rfl) (by kernel_rfl) (e := Extern.ReflectliteSwapper.swap false) (by kernel_rfl) args W) w hless hH hblk
    have hz : ps.toArray.size = ps.length := by simp
    rw [hz] at hS
    change Calls Tryz.prog 64 _ _ _ at hS
    refine hS.mono ?_
    rintro e w' ⟨rfl, d', n, os, hp, hso, rfl⟩
    obtain ⟨p1, _, p3⟩ := hp
    have hd : d'.size = ps.length := by simpa using p1
    refine ⟨rfl, d'.toList, ?_, ?_, ?_, grow_by w n blk d' os⟩
    · have e1 : d'.extract 0 ps.length = d' := by rw [← hd]; simp
      have e2 : ps.toArray.extract 0 ps.length = ps.toArray := by rw [← hz]; simp
      rw [e1, e2] at p3
      simpa using p3
    · rw [List.pairwise_iff_getElem]
      intro i j hi hj hij
      have := hso i j (Nat.zero_le _) hij (by simpa [hd] using hj)
      have hi' : i < d'.size := by simpa using hi
      have hj' : j < d'.size := by simpa using hj
      simpa [hi', hj'] using this
    · have := holdsK_putRowK encP 3 (Sort.ahead w n) blk 0 ps.toArray d' (holdsK_ahead _ _ _ _ _ _ _ hH) (by simpa using p1)
      simpa using holdsK_grow encP 3 _ os blk 0 _ (by simpa [putRowK] using hblk) this
  · have ht : ∀ f, Tryz.prog.funcs.findIdx? (·.name == "internal/reflectlite" ++ ".Swapper$" ++ toString (Lib.swapperK ps.length pcE 25)) = some f → _ := fun f hf =>
      Any.sort_Slice_tiny Tryz.laysGg6 108 106 pcT pcE (by kernel_rfl) (by kernel_rfl) (by kernel_rfl) (by kernel_rfl) 25 (fun _ => by kernel_rfl) (some ⟨blk, 0, none⟩) ps.length c (by omega) f hf (.func 88) #[] #[.pointer (some ⟨Bs, 0, none⟩)] w
    have hfin : Calls Tryz.prog 64 #[.iface 108 (.slice (some ⟨blk, 0, none⟩) ps.length c), .func (.func 88) #[] #[.pointer (some ⟨Bs, 0, none⟩)]] w fun e w' => e = .returned (.tuple #[]) ∧ ∃ os, w' = grow w os := by
      rcases Nat.lt_or_ge ps.length 1 with h0 | h1
      · have e0 : ps.length = 0 := by omega
        exact ht 129 (by rw [e0]; kernel_rfl)
      · have e1 : ps.length = 1 := by omega
        exact ht 130 (by rw [e1]; kernel_rfl)
    refine hfin.mono ?_
    rintro e w' ⟨rfl, os, rfl⟩
    refine ⟨rfl, ps, List.Perm.refl _, ?_, holdsK_grow encP 3 w os blk 0 _ hblk hH, ⟨rfl, rfl, rfl, by simp [grow], fun k hk _ => by simp only [grow]; rw [Array.getElem?_append_left hk]⟩⟩
    match ps, h2 with
    | [], _ => exact List.Pairwise.nil
    | [x], _ => exact List.pairwise_singleton _ _
    | _ :: _ :: _, h => exact absurd (by simp) h

end Go.Proofs.YthpldmlpononhaaGreat
