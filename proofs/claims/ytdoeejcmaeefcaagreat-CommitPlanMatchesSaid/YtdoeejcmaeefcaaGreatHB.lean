/-
The sort of the library at this dump: its bodies, as the kit lays them. The sort of the pieces in package energy's Allocate. No statement of the seat is proved here; no conditions beyond those of each theorem.
-/
import Derived.Ground.GgsProg
import Derived.Shelf.GgSortFunc.Small
import Derived.Shelf.GgSortFunc.Tiny
import Derived.Shelf.SlSortFuncK.WholeK
import Derived.Test.YtdoeejcmaeefcaaGreatProg
import Derived.Test.YtdoeejcmaeefcaaGreatHA
namespace Go.Proofs.YtdoeejcmaeefcaaGreat
open Go.Shelf
def Tryz.laysGg6_ren : Go.Shelf.Ren := ⟨fun | 6 => 77 | 10 => 90 | 11 => 91 | 12 => 92 | 13 => 93 | 14 => 94 | 24 => 115 | 25 => 116 | 26 => 117 | 27 => 118 | 28 => 119 | 29 => 120 | 30 => 121 | 31 => 122 | 32 => 123 | 33 => 124 | 34 => 138 | 35 => 139 | 36 => 140 | 37 => 141 | 38 => 142 | 39 => 160 | n => n, fun | 20 => 20 | 26 => 119 | 35 => 138 | 0 => 0 | 37 => 140 | 3 => 3 | 41 => 144 | 44 => 147 | 49 => 166 | 51 => 156 | 4 => 4 | 54 => 170 | 53 => 169 | 58 => 40 | 5 => 5 | 9 => 9 | 60 => 190 | 64 => 194 | 66 => 207 | 67 => 208 | 17 => 17 | 32 => 135 | 33 => 136 | 82 => 228 | 12 => 12 | 75 => 221 | 76 => 222 | 77 => 223 | 78 => 224 | 79 => 225 | 80 => 226 | n => n, fun | n => n⟩
theorem Tryz.laysGg6 : LaysGg.n6 Tryz.prog Tryz.laysGg6_ren := {
  mixed := by kernel_rfl
  f6 := Tryz.func77.trans (congrArg some (by kernel_rfl))
  f10 := Tryz.func90.trans (congrArg some (by kernel_rfl))
  f11 := Tryz.func91.trans (congrArg some (by kernel_rfl))
  f12 := Tryz.func92.trans (congrArg some (by kernel_rfl))
  f13 := Tryz.func93.trans (congrArg some (by kernel_rfl))
  f14 := Tryz.func94.trans (congrArg some (by kernel_rfl))
  f24 := Tryz.func115.trans (congrArg some (by kernel_rfl))
  f25 := Tryz.func116.trans (congrArg some (by kernel_rfl))
  f26 := Tryz.func117.trans (congrArg some (by kernel_rfl))
  f27 := Tryz.func118.trans (congrArg some (by kernel_rfl))
  f28 := Tryz.func119.trans (congrArg some (by kernel_rfl))
  f29 := Tryz.func120.trans (congrArg some (by kernel_rfl))
  f30 := Tryz.func121.trans (congrArg some (by kernel_rfl))
  f31 := Tryz.func122.trans (congrArg some (by kernel_rfl))
  f32 := Tryz.func123.trans (congrArg some (by kernel_rfl))
  f33 := Tryz.func124.trans (congrArg some (by kernel_rfl))
  f34 := Tryz.func138.trans (congrArg some (by kernel_rfl))
  f35 := Tryz.func139.trans (congrArg some (by kernel_rfl))
  f36 := Tryz.func140.trans (congrArg some (by kernel_rfl))
  f37 := Tryz.func141.trans (congrArg some (by kernel_rfl))
  f38 := Tryz.func142.trans (congrArg some (by kernel_rfl))
  f39 := Tryz.func160.trans (congrArg some (by kernel_rfl))
  t0 := Tryz.underlying0
  a0 := Tryz.isAgg0
  z0 := Tryz.sizeOf0
  v0 := Tryz.zeroValue0
  i0 := by kernel_rfl
  t3 := Tryz.underlying3
  a3 := Tryz.isAgg3
  z3 := Tryz.sizeOf3
  v3 := Tryz.zeroValue3
  i3 := by kernel_rfl
  t4 := Tryz.underlying4
  a4 := Tryz.isAgg4
  z4 := Tryz.sizeOf4
  v4 := Tryz.zeroValue4
  i4 := by kernel_rfl
  t5 := Tryz.underlying5
  a5 := Tryz.isAgg5
  z5 := Tryz.sizeOf5
  v5 := Tryz.zeroValue5
  i5 := by kernel_rfl
  t9 := Tryz.underlying9
  a9 := Tryz.isAgg9
  z9 := Tryz.sizeOf9
  v9 := Tryz.zeroValue9
  i9 := by kernel_rfl
  t12 := Tryz.underlying12
  a12 := Tryz.isAgg12
  z12 := Tryz.sizeOf12
  v12 := Tryz.zeroValue12
  i12 := by kernel_rfl
  t17 := Tryz.underlying17
  a17 := Tryz.isAgg17
  z17 := Tryz.sizeOf17
  v17 := Tryz.zeroValue17
  i17 := by kernel_rfl
  t20 := Tryz.underlying20
  a20 := Tryz.isAgg20
  z20 := Tryz.sizeOf20
  v20 := Tryz.zeroValue20
  i20 := by kernel_rfl
  t26 := Tryz.underlying119
  a26 := Tryz.isAgg119
  z26 := Tryz.sizeOf119
  v26 := Tryz.zeroValue119
  i26 := by kernel_rfl
  t32 := Tryz.underlying135
  a32 := Tryz.isAgg135
  z32 := Tryz.sizeOf135
  v32 := Tryz.zeroValue135
  i32 := by kernel_rfl
  t33 := Tryz.underlying136
  a33 := Tryz.isAgg136
  z33 := Tryz.sizeOf136
  v33 := Tryz.zeroValue136
  i33 := by kernel_rfl
  t35 := Tryz.underlying138
  a35 := Tryz.isAgg138
  z35 := Tryz.sizeOf138
  v35 := Tryz.zeroValue138
  i35 := by kernel_rfl
  t37 := Tryz.underlying140
  a37 := Tryz.isAgg140
  z37 := Tryz.sizeOf140
  v37 := Tryz.zeroValue140
  i37 := by kernel_rfl
  t41 := Tryz.underlying144
  a41 := Tryz.isAgg144
  z41 := Tryz.sizeOf144
  v41 := Tryz.zeroValue144
  i41 := by kernel_rfl
  t44 := Tryz.underlying147
  a44 := Tryz.isAgg147
  z44 := Tryz.sizeOf147
  v44 := Tryz.zeroValue147
  i44 := by kernel_rfl
  t49 := Tryz.underlying166
  a49 := Tryz.isAgg166
  z49 := Tryz.sizeOf166
  v49 := Tryz.zeroValue166
  i49 := by kernel_rfl
  t51 := Tryz.underlying156
  a51 := Tryz.isAgg156
  z51 := Tryz.sizeOf156
  v51 := Tryz.zeroValue156
  i51 := by kernel_rfl
  t53 := Tryz.underlying169
  a53 := Tryz.isAgg169
  z53 := Tryz.sizeOf169
  v53 := Tryz.zeroValue169
  i53 := by kernel_rfl
  t54 := Tryz.underlying170
  a54 := Tryz.isAgg170
  z54 := Tryz.sizeOf170
  v54 := Tryz.zeroValue170
  i54 := by kernel_rfl
  t58 := Tryz.underlying40
  a58 := Tryz.isAgg40
  z58 := Tryz.sizeOf40
  v58 := Tryz.zeroValue40
  i58 := by kernel_rfl
  t60 := Tryz.underlying190
  a60 := Tryz.isAgg190
  z60 := Tryz.sizeOf190
  v60 := Tryz.zeroValue190
  i60 := by kernel_rfl
  t64 := Tryz.underlying194
  a64 := Tryz.isAgg194
  z64 := Tryz.sizeOf194
  v64 := Tryz.zeroValue194
  i64 := by kernel_rfl
  t66 := Tryz.underlying207
  a66 := Tryz.isAgg207
  z66 := Tryz.sizeOf207
  v66 := Tryz.zeroValue207
  i66 := by kernel_rfl
  t67 := Tryz.underlying208
  a67 := Tryz.isAgg208
  z67 := Tryz.sizeOf208
  v67 := Tryz.zeroValue208
  i67 := by kernel_rfl
  t75 := Tryz.underlying221
  a75 := Tryz.isAgg221
  z75 := Tryz.sizeOf221
  v75 := Tryz.zeroValue221
  i75 := by kernel_rfl
  t76 := Tryz.underlying222
  a76 := Tryz.isAgg222
  z76 := Tryz.sizeOf222
  v76 := Tryz.zeroValue222
  i76 := by kernel_rfl
  t77 := Tryz.underlying223
  a77 := Tryz.isAgg223
  z77 := Tryz.sizeOf223
  v77 := Tryz.zeroValue223
  i77 := by kernel_rfl
  t78 := Tryz.underlying224
  a78 := Tryz.isAgg224
  z78 := Tryz.sizeOf224
  v78 := Tryz.zeroValue224
  i78 := by kernel_rfl
  t79 := Tryz.underlying225
  a79 := Tryz.isAgg225
  z79 := Tryz.sizeOf225
  v79 := Tryz.zeroValue225
  i79 := by kernel_rfl
  t80 := Tryz.underlying226
  a80 := Tryz.isAgg226
  z80 := Tryz.sizeOf226
  v80 := Tryz.zeroValue226
  i80 := by kernel_rfl
  t82 := Tryz.underlying228
  a82 := Tryz.isAgg228
  z82 := Tryz.sizeOf228
  v82 := Tryz.zeroValue228
  i82 := by kernel_rfl }
end Go.Proofs.YtdoeejcmaeefcaaGreat

namespace Go.Proofs.YtdoeejcmaeefcaaGreat
set_option linter.unusedVariables false
set_option linter.unusedSimpArgs false
open Go.Shelf Go.RowKit Go.Lib Go.Sort
open En

def encP (p : Pc) : List Value := [.int .i64 (p.1 : Int), .int .i64 p.2.1, .int .i64 p.2.2]
theorem swo_ltP : SWO ltP where
  irrefl := by intro a; simp [ltP]
  trans := by
    intro a b c h1 h2
    unfold ltP at *
    by_cases e1 : a.2.2 = b.2.2 <;> by_cases e2 : b.2.2 = c.2.2 <;> by_cases e3 : a.2.2 = c.2.2 <;> simp_all <;> omega
  ntrans := by
    intro a b c h1 h2
    unfold ltP at *
    by_cases e1 : a.2.2 = b.2.2 <;> by_cases e2 : b.2.2 = c.2.2 <;> by_cases e3 : a.2.2 = c.2.2 <;> simp_all <;> omega

noncomputable def pcT : TypeInfo := (Tryz.prog.info? 117).get (by kernel_rfl)
noncomputable def pcE : TypeInfo := (Tryz.prog.info? 115).get (by kernel_rfl)
theorem pcK (n : Nat) (h2 : 2 ≤ n) : Lib.swapperK n pcE 25 = 9 := by
  have a : pcE.hasPointers = false := by kernel_rfl
  have b : pcE.bytes = 24 := by kernel_rfl
  have c : (n == 0) = false := by simp; omega
  have d : (n == 1) = false := by simp; omega
  simp [Lib.swapperK, a, b, c, d]

set_option maxHeartbeats 2000000 in
theorem less_ne (blk c Bs size : Nat) (W : World) (G : Nat → Int) (hs : W.cell? ⟨Bs, 0, none⟩ = some (.slice (some ⟨blk, 0, none⟩) size c))
    (hc : ∀ t, t < size → W.cell? ⟨blk, t * 3 + 2, none⟩ = some (.int .i64 (G t))) (i j : Nat) (hi : i < size) (hj : j < size) (_hsz : size < 4611686018427387904) (hne : (G i != G j) = true) :
    Calls Tryz.prog 78 #[.int .i64 i, .int .i64 j, .pointer (some ⟨Bs, 0, none⟩)] W fun e w' => e = .returned (.bool (decide (G i < G j))) ∧ ∃ q, w' = W.drewN q := by
  have ci := hc i hi
  have cj := hc j hj
  clear hc
  go_enter Tryz.func78, Tryz.ntmps78
  go_wp2
  go_quiet (fail)
  rename Nat => n1
  go_wp2
  go_quiet (fail)
  rename Nat => n2
  go_wp2
  go_ret
  exact ⟨rfl, n1 + n2, World.drewN_drewN _ _ _⟩
set_option maxHeartbeats 2000000 in
theorem less_eq (blk c Bs size : Nat) (W : World) (G U : Nat → Int) (hs : W.cell? ⟨Bs, 0, none⟩ = some (.slice (some ⟨blk, 0, none⟩) size c))
    (hc : ∀ t, t < size → W.cell? ⟨blk, t * 3 + 2, none⟩ = some (.int .i64 (G t))) (hu : ∀ t, t < size → W.cell? ⟨blk, t * 3, none⟩ = some (.int .i64 (U t))) (i j : Nat) (hi : i < size) (hj : j < size) (_hsz : size < 4611686018427387904) (hne : (G i != G j) = false) :
    Calls Tryz.prog 78 #[.int .i64 i, .int .i64 j, .pointer (some ⟨Bs, 0, none⟩)] W fun e w' => e = .returned (.bool (decide (U j < U i))) ∧ ∃ q, w' = W.drewN q := by
  have ci := hc i hi
  have cj := hc j hj
  have ui := hu i hi
  have uj := hu j hj
  clear hc hu
  go_enter Tryz.func78, Tryz.ntmps78
  go_wp2
  go_quiet (fail)
  rename Nat => n1
  go_wp2
  go_quiet (fail)
  rename Nat => n2
  go_wp2
  go_ret
  exact ⟨rfl, n1 + n2, World.drewN_drewN _ _ _⟩
theorem less_any (blk c Bs size : Nat) (W : World) (d : Nat → Pc) (hs : W.cell? ⟨Bs, 0, none⟩ = some (.slice (some ⟨blk, 0, none⟩) size c))
    (hc : ∀ t, t < size → W.cell? ⟨blk, t * 3 + 2, none⟩ = some (.int .i64 (d t).2.2)) (hu : ∀ t, t < size → W.cell? ⟨blk, t * 3, none⟩ = some (.int .i64 ((d t).1 : Int))) (i j : Nat) (hi : i < size) (hj : j < size) (hsz : size < 4611686018427387904) :
    Calls Tryz.prog 78 #[.int .i64 i, .int .i64 j, .pointer (some ⟨Bs, 0, none⟩)] W fun e w' => e = .returned (.bool (ltP (d i) (d j))) ∧ ∃ q, w' = W.drewN q := by
  by_cases h : (d i).2.2 = (d j).2.2
  · have e : ltP (d i) (d j) = decide (((d j).1 : Int) < ((d i).1 : Int)) := by unfold ltP; rw [if_neg (by simpa using h)]; simp
    rw [e]
    exact less_eq blk c Bs size W (fun t => (d t).2.2) (fun t => ((d t).1 : Int)) hs hc hu i j hi hj hsz (by simpa using h)
  · have e : ltP (d i) (d j) = decide ((d i).2.2 < (d j).2.2) := by unfold ltP; rw [if_pos h]
    rw [e]
    exact less_ne blk c Bs size W (fun t => (d t).2.2) hs hc i j hi hj hsz (by simpa using h)

theorem grow_by (w : World) (n blk : Nat) (d : Array Pc) (os : Array Obj) : w.grownBy (grow (putRowK encP 3 (Sort.ahead w n) blk 0 d) os) (some blk) := by
  refine ⟨rfl, rfl, rfl, ?_, fun k hk hne => ?_⟩
  · simp [grow, putRowK, putRow, mapBlock]
  · have hkb : blk ≠ k := fun e => hne (by rw [e])
    have e : (putRowK encP 3 (Sort.ahead w n) blk 0 d).heap[k]? = w.heap[k]? := by simp only [putRowK, putRow, mapBlock, Array.getElem?_modify, if_neg hkb]; rfl
    rw [← e]
    simp only [grow]
    rw [Array.getElem?_append_left]
    simpa [putRowK, putRow, mapBlock] using hk

theorem esort (blk c Bs : Nat) (ps : List Pc) (w : World) (hH : HoldsK encP 3 w blk 0 ps.toArray) (hblk : blk < w.heap.size) (hBs : w.cell? ⟨Bs, 0, none⟩ = some (.slice (some ⟨blk, 0, none⟩) ps.length c)) (hB1 : Bs < w.heap.size) (hB2 : Bs ≠ blk) (hsz : ps.length < 4611686018427387904) :
    Calls Tryz.prog 77 #[.iface 117 (.slice (some ⟨blk, 0, none⟩) ps.length c), .func (.func 78) #[] #[.pointer (some ⟨Bs, 0, none⟩)]] w fun e w' =>
      e = .returned (.tuple #[]) ∧ ∃ ps' : List Pc, ps'.Perm ps ∧ ps'.Pairwise (fun a b => ltP b a = false) ∧ HoldsK encP 3 w' blk 0 ps'.toArray ∧ w.grownBy w' (some blk) := by
  by_cases h2 : 2 ≤ ps.length
  · have hless : LessReadsK Tryz.prog 78 #[.pointer (some ⟨Bs, 0, none⟩)] encP 3 ltP blk 0 ps.toArray.size w := by
      intro m os dk hs i j hi hj
      have e : sortWorldK encP 3 w blk 0 m dk os = putRowK encP 3 (grow (Sort.ahead w m) os) blk 0 dk := by
        unfold sortWorldK; rw [putRowK_grow _ _ (Sort.ahead w m) _ blk 0 _ hblk]
      have hHg : HoldsK encP 3 (grow (Sort.ahead w m) os) blk 0 ps.toArray := holdsK_grow _ _ _ _ blk 0 _ hblk (holdsK_ahead _ _ _ _ _ _ _ hH)
      have hHd := holdsK_putRowK _ _ _ blk 0 ps.toArray dk hHg hs
      refine less_any blk c Bs ps.toArray.size _ (fun t => dk[t]!) ?_ (fun t ht => ?_) (fun t ht => ?_) i j hi hj (by simpa using hsz)
      · rw [e, cell?_putRowK_other _ _ _ blk 0 dk _ (by exact hB2), cell?_grow _ _ _ (by exact hB1)]; simpa using hBs
      · rw [e]; have := (hHd.cell (i := t) (c := 2) (by omega) (by omega)).1; rw [Nat.zero_add] at this; exact this
      · rw [e]; have := (hHd.cell (i := t) (c := 0) (by omega) (by omega)).1; rw [Nat.zero_add] at this; exact this
    have hS := Any.sort_Slice_cells_sorted Tryz.laysGg6 117 115 pcT pcE (by kernel_rfl) (by kernel_rfl) (by kernel_rfl) (by kernel_rfl) 25 (fun _ => by kernel_rfl) encP 3 (fun _ => rfl) (by kernel_rfl) (fun _ => by kernel_rfl)
      (fun x v hv => by simp [encP] at hv; rcases hv with rfl | rfl | rfl <;> rfl) ltP swo_ltP 78 _
      (enters_of Tryz.func78 (by kernel_rfl) rfl) blk 0 c ps.toArray (by simpa using h2) (by simpa using hsz) 114 (by rw [pcK _ (by simpa using h2)]; kernel_rfl) false
      (fun args W => run_callFunc_extern Tryz.func114 (by kernel_rfl) (by kernel_rfl) (by kernel_rfl) (e := Extern.ReflectliteSwapper.swap false) (by kernel_rfl) args W) w hless hH hblk
    have hz : ps.toArray.size = ps.length := by simp
    rw [hz] at hS
    change Calls Tryz.prog 77 _ _ _ at hS
    refine hS.mono ?_
    rintro e w' ⟨rfl, d', n, os, hp, hso, rfl⟩
    obtain ⟨p1, _, p3⟩ := hp
    have hd : d'.size = ps.length := by simpa using p1
    refine ⟨rfl, d'.toList, ?_, ?_, ?_, grow_by w n blk d' os⟩
    · have e1 : d'.extract 0 ps.length = d' := by rw [← hd]; simp
      have e2 : ps.toArray.extract 0 ps.length = ps.toArray := by rw [← hz]; simp
      rw [e1, e2] at p3
      simpa using p3
    · rw [List.pairwise_iff_getElem]
      intro i j hi hj hij
      have := hso i j (Nat.zero_le _) hij (by simpa [hd] using hj)
      have hi' : i < d'.size := by simpa using hi
      have hj' : j < d'.size := by simpa using hj
      simpa [hi', hj'] using this
    · have := holdsK_putRowK encP 3 (Sort.ahead w n) blk 0 ps.toArray d' (holdsK_ahead _ _ _ _ _ _ _ hH) (by simpa using p1)
      simpa using holdsK_grow encP 3 _ os blk 0 _ (by simpa [putRowK] using hblk) this
  · have ht : ∀ f, Tryz.prog.funcs.findIdx? (·.name == "internal/reflectlite" ++ ".Swapper$" ++ toString (Lib.swapperK ps.length pcE 25)) = some f → _ := fun f hf =>
      Any.sort_Slice_tiny Tryz.laysGg6 117 115 pcT pcE (by kernel_rfl) (by kernel_rfl) (by kernel_rfl) (by kernel_rfl) 25 (fun _ => by kernel_rfl) (some ⟨blk, 0, none⟩) ps.length c (by omega) f hf (.func 78) #[] #[.pointer (some ⟨Bs, 0, none⟩)] w
    have hfin : Calls Tryz.prog 77 #[.iface 117 (.slice (some ⟨blk, 0, none⟩) ps.length c), .func (.func 78) #[] #[.pointer (some ⟨Bs, 0, none⟩)]] w fun e w' => e = .returned (.tuple #[]) ∧ ∃ os, w' = grow w os := by
      rcases Nat.lt_or_ge ps.length 1 with h0 | h1
      · have e0 : ps.length = 0 := by omega
        exact ht 106 (by rw [e0]; kernel_rfl)
      · have e1 : ps.length = 1 := by omega
        exact ht 107 (by rw [e1]; kernel_rfl)
    refine hfin.mono ?_
    rintro e w' ⟨rfl, os, rfl⟩
    refine ⟨rfl, ps, List.Perm.refl _, ?_, holdsK_grow encP 3 w os blk 0 _ hblk hH, ⟨rfl, rfl, rfl, by simp [grow], fun k hk _ => by simp only [grow]; rw [Array.getElem?_append_left hk]⟩⟩
    match ps, h2 with
    | [], _ => exact List.Pairwise.nil
    | [x], _ => exact List.pairwise_singleton _ _
    | _ :: _ :: _, h => exact absurd (by simp) h

end Go.Proofs.YtdoeejcmaeefcaaGreat
