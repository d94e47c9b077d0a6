/-
sort.Slice of integers in clearingPrice of package clear. No statement of the seat is proved here; no conditions beyond those of each theorem.
-/
import Derived.Test.YtnjpojpfiijlfaaGreatGG
import Derived.Shelf.GgSortFunc.Whole
namespace Go.Proofs.YtnjpojpfiijlfaaGreat
set_option linter.unusedVariables false
set_option linter.unusedSimpArgs false
open Go.Shelf Go.RowKit Go.Lib Go.Sort
open Wd
def encI (x : Int) : Value := .int .i64 x
noncomputable def iT : TypeInfo := (Tryz.prog.info? 62).get (by kernel_rfl)
noncomputable def iE : TypeInfo := (Tryz.prog.info? 2).get (by kernel_rfl)
theorem iK (n : Nat) (h2 : 2 ≤ n) : Lib.swapperK n iE 6 = 5 := by
  have a : iE.hasPointers = false := by kernel_rfl
  have b : iE.bytes = 8 := by kernel_rfl
  have c : (n == 0) = false := by simp; omega
  have d : (n == 1) = false := by simp; omega
  simp [Lib.swapperK, a, b, c, d]
def ltI (a b : Int) : Bool := decide (a < b)
theorem swo_ltI : SWO ltI where
  irrefl := by intro a; simp [ltI]
  trans := by intro a b c h1 h2; simp [ltI] at *; omega
  ntrans := by intro a b c h1 h2; simp [ltI] at *; omega
theorem grow_i (w : World) (n blk : Nat) (d : Array Int) (os : Array Obj) : w.grownBy (grow (putRow encI (Sort.ahead w n) blk 0 d) os) (some blk) := by
  refine ⟨rfl, rfl, rfl, ?_, fun k hk hne => ?_⟩
  · simp [grow, putRow, mapBlock]
  · have hkb : blk ≠ k := fun e => hne (by rw [e])
    have e : (putRow encI (Sort.ahead w n) blk 0 d).heap[k]? = w.heap[k]? := by simp only [putRow, mapBlock, Array.getElem?_modify, if_neg hkb]; rfl
    rw [← e]
    simp only [grow]
    rw [Array.getElem?_append_left]
    simpa [putRow, mapBlock] using hk
set_option maxHeartbeats 2000000 in
theorem less_ints (blk c Bs size : Nat) (W : World) (G : Nat → Int) (hs : W.cell? ⟨Bs, 0, none⟩ = some (.slice (some ⟨blk, 0, none⟩) size c))
    (hc : ∀ t, t < size → W.cell? ⟨blk, t, none⟩ = some (.int .i64 (G t))) (i j : Nat) (hi : i < size) (hj : j < size) (_hsz : size < 4611686018427387904) :
    Calls Tryz.prog 163 #[.int .i64 i, .int .i64 j, .pointer (some ⟨Bs, 0, none⟩)] W fun e w' => e = .returned (.bool (decide (G i < G j))) ∧ ∃ q, w' = W.drewN q := by
  have ci := hc i hi
  have cj := hc j hj
  clear hc
  go_enter Tryz.func163, Tryz.ntmps163
  go_wp2
  go_quiet (fail)
  rename Nat => n1
  go_wp2
  go_ret
  exact ⟨rfl, n1, rfl⟩
theorem sort_ints (blk c Bs : Nat) (ps : List Int) (w : World) (hH : Holds encI w blk 0 ps.toArray) (hblk : blk < w.heap.size) (hBs : w.cell? ⟨Bs, 0, none⟩ = some (.slice (some ⟨blk, 0, none⟩) ps.length c)) (hB1 : Bs < w.heap.size) (hB2 : Bs ≠ blk) (hsz : ps.length < 4611686018427387904) :
    Calls Tryz.prog 85 #[.iface 62 (.slice (some ⟨blk, 0, none⟩) ps.length c), .func (.func 163) #[] #[.pointer (some ⟨Bs, 0, none⟩)]] w fun e w' =>
      e = .returned (.tuple #[]) ∧ ∃ ps' : List Int, ps'.Perm ps ∧ ps'.Pairwise (fun a b => ltI b a = false) ∧ Holds encI w' blk 0 ps'.toArray ∧ w.grownBy w' (some blk) := by
  by_cases h2 : 2 ≤ ps.length
  · have hless : LessReads Tryz.prog 163 #[.pointer (some ⟨Bs, 0, none⟩)] encI ltI blk 0 ps.toArray.size w := by
      intro m os dk hs i j hi hj
      have e : sortWorld encI w blk 0 m dk os = putRow encI (grow (Sort.ahead w m) os) blk 0 dk := by
        unfold sortWorld; rw [putRow_grow _ (Sort.ahead w m) _ blk 0 _ hblk]
      have hHg : Holds encI (grow (Sort.ahead w m) os) blk 0 ps.toArray := holds_grow _ _ _ blk 0 _ hblk (holds_ahead _ _ _ _ _ _ hH)
      have hHd := holds_putRow _ _ blk 0 ps.toArray dk hHg hs
      refine less_ints blk c Bs ps.toArray.size _ (fun t => dk[t]!) ?_ (fun t ht => ?_) i j hi hj (by simpa using hsz)
      · rw [e, cell?_putRow_other _ _ blk 0 dk _ (Or.inl (by exact hB2)), cell?_grow _ _ _ (by exact hB1)]; simpa using hBs
      · rw [e]; have := (hHd t (by omega)).1; rw [Nat.zero_add] at this; exact this
    have hS := Any.sort_Slice_sorted Tryz.laysGg6 62 2 iT iE (by kernel_rfl) (by kernel_rfl) (by kernel_rfl) (by kernel_rfl) 6 (fun _ => by kernel_rfl) (by kernel_rfl) (fun _ => by kernel_rfl) encI (fun _ => rfl) ltI swo_ltI 163 _
      (enters_of Tryz.func163 (by kernel_rfl) rfl) blk 0 c ps.toArray (by simpa using h2) (by simpa using hsz) 175 (by rw [iK _ (by simpa using h2)]; kernel_rfl) true
      (fun args W => run_callFunc_extern Tryz.func175 (by kernel_rfl) (by kernel_rfl) (by kernel_rfl) (e := Extern.ReflectliteSwapper.swap true) (by kernel_rfl) args W) w hless hH hblk
    have hz : ps.toArray.size = ps.length := by simp
    rw [hz] at hS
    change Calls Tryz.prog 85 _ _ _ at hS
    refine hS.mono ?_
    rintro e w' ⟨rfl, d', n', os, hp, hso, rfl⟩
    obtain ⟨p1, _, p3⟩ := hp
    have hd : d'.size = ps.length := by simpa using p1
    refine ⟨rfl, d'.toList, ?_, ?_, ?_, grow_i w n' blk d' os⟩
    · have e1 : d'.extract 0 ps.length = d' := by rw [← hd]; simp
      have e2 : ps.toArray.extract 0 ps.length = ps.toArray := by rw [← hz]; simp
      rw [e1, e2] at p3
      simpa using p3
    · rw [List.pairwise_iff_getElem]
      intro i j hi hj hij
      have := hso i j (Nat.zero_le _) hij (by simpa [hd] using hj)
      have hi' : i < d'.size := by simpa using hi
      have hj' : j < d'.size := by simpa using hj
      simpa [hi', hj'] using this
    · have := holds_putRow encI (Sort.ahead w n') blk 0 ps.toArray d' (holds_ahead _ _ _ _ _ _ hH) (by simpa using p1)
      simpa using holds_grow encI _ os blk 0 _ (by simpa [putRow, mapBlock] using hblk) this
  · have ht : ∀ f, Tryz.prog.funcs.findIdx? (·.name == "internal/reflectlite" ++ ".Swapper$" ++ toString (Lib.swapperK ps.length iE 6)) = some f → _ := fun f hf =>
      Any.sort_Slice_tiny Tryz.laysGg6 62 2 iT iE (by kernel_rfl) (by kernel_rfl) (by kernel_rfl) (by kernel_rfl) 6 (fun _ => by kernel_rfl) (some ⟨blk, 0, none⟩) ps.length c (by omega) f hf (.func 163) #[] #[.pointer (some ⟨Bs, 0, none⟩)] w
    have hfin : Calls Tryz.prog 85 #[.iface 62 (.slice (some ⟨blk, 0, none⟩) ps.length c), .func (.func 163) #[] #[.pointer (some ⟨Bs, 0, none⟩)]] w fun e w' => e = .returned (.tuple #[]) ∧ ∃ os, w' = grow w os := by
      rcases Nat.lt_or_ge ps.length 1 with h0 | h1
      · have e0 : ps.length = 0 := by omega
        exact ht 171 (by rw [e0]; kernel_rfl)
      · have e1 : ps.length = 1 := by omega
        exact ht 172 (by rw [e1]; kernel_rfl)
    refine hfin.mono ?_
    rintro e w' ⟨rfl, os, rfl⟩
    refine ⟨rfl, ps, List.Perm.refl _, ?_, holds_grow encI w os blk 0 _ hblk hH, ⟨rfl, rfl, rfl, by simp [grow], fun k hk _ => by simp only [grow]; rw [Array.getElem?_append_left hk]⟩⟩
    match ps, h2 with
    | [], _ => exact List.Pairwise.nil
    | [x], _ => exact List.pairwise_singleton _ _
    | _ :: _ :: _, h => exact absurd (by simp) h

end Go.Proofs.YtnjpojpfiijlfaaGreat
