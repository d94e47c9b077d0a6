/-
Package commit: Plan. Package commit: Plan, the walk. No statement of the seat is proved here; no conditions beyond those of each theorem.
-/
import Derived.Test.YtdoeejcmaeefcaaGreatHZ
import Derived.Test.YtdoeejcmaeefcaaGreatJCp13
namespace Go.Proofs.YtdoeejcmaeefcaaGreat
set_option linter.unusedVariables false
set_option linter.unusedSimpArgs false
open Go.RowKit
open Wd
open Cm

/-- A plan in blocks of its own. -/
def OwnPl (w : World) (base : Nat) (g : Nat) (pl : List (List Bool)) : Prop :=
  base ≤ g ∧ ∃ gl : List Nat, gl.length = pl.length ∧ Blk w g 35 ((gl.zip pl).map fun x => Value.slice (some ⟨x.1, 0, none⟩) x.2.length x.2.length).toArray ∧ ∀ j, j < pl.length → base ≤ gl[j]?.getD 0 ∧ BRow w (gl[j]?.getD 0) (pl[j]?.getD [])
theorem OwnPl.at {w : World} {base g : Nat} {pl : List (List Bool)} {m : Nat} (h : OwnPl w base g pl) (hm : pl.length = m) : PlAt w (some ⟨g, 0, none⟩) m pl := by
  obtain ⟨_, gl, hl, hb, hr⟩ := h
  refine ⟨hm, fun hn => ⟨g, 0, rfl, hb.lt, fun j hj => ?_⟩⟩
  have hjp : j < pl.length := by omega
  have hjg : j < gl.length := by omega
  refine ⟨some ⟨gl[j]?.getD 0, 0, none⟩, (pl[j]?.getD []).length, (pl[j]?.getD []).length, ?_, (hr j hjp).2.at rfl⟩
  have ez : (gl.zip pl)[j]? = some (gl[j], pl[j]) := by
    rw [List.getElem?_eq_getElem (by rw [List.length_zip]; omega), List.getElem_zip]
  rw [Nat.zero_add, hb.cell j, List.getElem?_toArray, List.getElem?_map, ez, List.getElem?_eq_getElem hjp, List.getElem?_eq_getElem hjg]
  rfl
/-- What Plan returns. -/
def PnR (us : List Un) (hs : List Hr) (w : World) (e : Ending) (w' : World) : Prop :=
  Below w.heap.size w w' ∧ ((cchk us hs ≠ 0 ∧ e = .returned (.tuple #[.slice none 0 0, .int .i64 (cchk us hs)])) ∨ (cchk us hs = 0 ∧ bestV us hs = none ∧ e = .returned (.tuple #[.slice none 0 0, .int .i64 8])) ∨
    (cchk us hs = 0 ∧ (∃ c v, bestV us hs = some (c, v)) ∧ ∃ g, e = .returned (.tuple #[.slice (some ⟨g, 0, none⟩) hs.length hs.length, .int .i64 0]) ∧ OwnPl w' w.heap.size g (planB us hs)))
theorem made_slices (n : Nat) : madeCells #[.slice none 0 0] n = Array.replicate n (.slice none 0 0) := by
  apply Array.ext
  · simp [size_madeCells]
  · intro i h1 h2
    simp [madeCells, Nat.mod_one]
theorem info_bools : (Tryz.prog.info? 35).map (fun i => (i.zero, i.size, i.bytes)) = some (some (.slice none 0 0), 1, 24) := by kernel_rfl
theorem run_make_plan (k : Nat) (hk : k ≤ 1000000) (w : World) :
    (Instr.makeSlice 24 (.int .i64 (k : Int)) (.int .i64 (k : Int))).run Tryz.prog w = .ok (.slice (some ⟨w.heap.size, 0, none⟩) k k) (w.alloc (.cells (Array.replicate k (.slice none 0 0)) 35)) := by
  obtain ⟨i0, hi, hz0, hz1, hz2⟩ := info_parts info_bools
  have h := run_make (P := Tryz.prog) w 24 35 i0 _ Tryz.underlying24 hi hz0 .i64 .i64 k k (by omega) (Int.le_refl _) (by rw [hz2]; omega) (by omega)
  rw [h, hz1]
  simp only [Int.toNat_natCast, Value.cells, Nat.mul_one]
  rw [made_slices]
theorem run_field_out (a b c : Value) (w : World) : (Instr.field 73 (.agg #[a, b, c]) 0).run Tryz.prog w = .ok a w := by kernel_rfl
theorem bestV_eq {us : List Un} {hs : List Hr} {n : Nat} (h : us.length = n) : bsV us (rowsOf us hs) n 0 (initS us) = bestV us hs := by
  unfold bsV bestV
  rw [List.drop_zero, h]
theorem initS_pt {us : List Un} {n : Nat} (hl : us.length = n) (hu : ∀ u ∈ us, uchk u = 0) : PtOk n (initS us) ∧ ∀ i, i < n → StOk (us[i]?.getD U0) ((initS us)[i]?.getD 0) := by
  have key : ∀ i, i < n → StOk (us[i]?.getD U0) ((initS us)[i]?.getD 0) := fun i hi => by
    rw [initS_get (by omega)]
    exact uinit_ok (hu _ (gmem (by omega)))
  refine ⟨⟨by simp [initS, hl], fun s hs => ?_⟩, key⟩
  obtain ⟨j, hj, rfl⟩ := List.mem_iff_getElem.1 hs
  have hjl : j < us.length := by simpa [initS] using hj
  have h5 := key j (by omega)
  have h6 := uchk_rest (hu _ (gmem (d := U0) hjl))
  rw [List.getElem?_eq_getElem hj] at h5
  unfold StOk at h5
  simp only [Option.getD_some] at h5
  omega
/-- The way of the plan: k hours are done. -/
def Way (us : List Un) (R : List Row) (n : Nat) (pc : List Nat) (k : Nat) (ss : List Int) (done : List Nat) : Prop :=
  done.length = k ∧ pc = done ++ plan (mv us) (2 ^ n) (R.drop k) ss ∧ (∃ c v, bsV us R n k ss = some (c, v)) ∧ PtOk n ss ∧ ∀ i, i < n → StOk (us[i]?.getD U0) (ss[i]?.getD 0)
theorem Way.start {us : List Un} {hs : List Hr} {n c : Nat} {v : Int} (hl : us.length = n) (hu : ∀ u ∈ us, uchk u = 0) (h : bestV us hs = some (c, v)) : Way us (rowsOf us hs) n (planC us hs) 0 (initS us) [] := by
  refine ⟨rfl, ?_, ⟨c, v, by rw [bestV_eq hl]; exact h⟩, initS_pt hl hu⟩
  unfold planC
  rw [hl]
  rfl
theorem Way.step {us : List Un} {R : List Row} {n k : Nat} {pc : List Nat} {ss : List Int} {done : List Nat} (hl : us.length = n) (hu : ∀ u ∈ us, uchk u = 0) (hk : k < R.length) (h : Way us R n pc k ss done) :
    ∃ c v r x, bsV us R n k ss = some (c, v) ∧ mv us (R[k]?.getD []) ss c = some (r, x) ∧ c < 2 ^ n ∧ Way us R n pc (k + 1) r (done ++ [c]) := by
  obtain ⟨h1, h2, ⟨c, v, h3⟩, h4, h5⟩ := h
  have e : R.drop k = (R[k]?.getD []) :: R.drop (k + 1) := dropD hk
  have h3' := h3
  unfold bsV at h3
  rw [e] at h3
  obtain ⟨s', x, c', y, g1, g2, g3, g4, g5⟩ := plan_cons h3
  subst hl
  have g6 := mv_ok hu h5 g1
  refine ⟨c, v, s', x, h3', g1, g5, by simp [h1], ?_, ⟨c', y, g2⟩, g6⟩
  rw [h2, e, g4, List.append_assoc]
  rfl
theorem Way.done {us : List Un} {R : List Row} {n k : Nat} {pc : List Nat} {ss : List Int} {done : List Nat} (hk : k = R.length) (h : Way us R n pc k ss done) : pc = done := by
  rw [h.2.1, hk, List.drop_length]
  simp [plan]

theorem Bm.blkK {V : Nat → List Int → Option (Nat × Int)} {n : Nat} {w w' : World} {mb g : Nat} {t : TypeId} {cs : Array Value} (hk : KnR V n w mb) (h : Bm mb w.heap.size w w') (hc : Blk w g t cs) : Blk w' g t cs := by
  obtain ⟨es, c, hm, _⟩ := hk
  exact h.blk hm hc
theorem Bm.below {mb B : Nat} {w wu w4 : World} (h : Below B w wu) (hb : Bm mb wu.heap.size wu w4) (h1 : B ≤ mb) (h2 : B ≤ wu.heap.size) : Below B w w4 :=
  ⟨hb.os.trans h.os, hb.tape.trans h.tape, hb.output.trans h.output, Nat.le_trans h.size hb.size, fun k hk => (hb.block k (by omega) (by omega)).trans (h.block k hk)⟩
/-- The cells of a plan whose first rows are laid. -/
def plC (m n : Nat) (gl : List Nat) : Array Value := ((gl.map fun g => Value.slice (some ⟨g, 0, none⟩) n n) ++ List.replicate (m - gl.length) (Value.slice none 0 0)).toArray
theorem plC_size {m n : Nat} {gl : List Nat} (h : gl.length ≤ m) : (plC m n gl).size = m := by simp [plC]; omega
theorem plC_set {m n g : Nat} {gl : List Nat} (h : gl.length < m) : (plC m n gl).setIfInBounds gl.length (Value.slice (some ⟨g, 0, none⟩) n n) = plC m n (gl ++ [g]) := by
  unfold plC
  rw [List.setIfInBounds_toArray, List.set_append_right _ _ (by simp)]
  obtain ⟨d, hd⟩ : ∃ d, m - gl.length = d + 1 := ⟨m - gl.length - 1, by omega⟩
  have hd2 : m - (gl ++ [g]).length = d := by simp; omega
  rw [hd, hd2, List.replicate_succ]
  simp
theorem plC_full {m n : Nat} {gl : List Nat} {pl : List (List Bool)} (h : gl.length = m) (hp : pl.length = m) (hr : ∀ r ∈ pl, r.length = n) : plC m n gl = ((gl.zip pl).map fun x => Value.slice (some ⟨x.1, 0, none⟩) x.2.length x.2.length).toArray := by
  unfold plC
  rw [h, Nat.sub_self, List.replicate_zero, List.append_nil]
  congr 1
  apply List.ext_getElem (by simp; omega)
  intro i h1 h2
  have hi : i < gl.length := by simpa using h1
  have hip : i < pl.length := by omega
  simp only [List.getElem_map, List.getElem_zip, hr _ (List.getElem_mem hip)]
/-- The plan with its first hours. -/
def PW (us : List Un) (hs : List Hr) (n m mb : Nat) (w w2 : World) (gp : Nat) (k : Nat) (wr : World) : Prop :=
  ∃ (ss : List Int) (done gl : List Nat), Way us (rowsOf us hs) n (planC us hs) k ss done ∧ Bm mb w2.heap.size w2 wr ∧ KnR (bsV us (rowsOf us hs) n) n wr mb ∧ Blk wr (gp + 1) 71 (ptC (k : Int) ss) ∧ gl.length = k ∧ Blk wr gp 35 (plC m n gl) ∧ ∀ j, j < k → w.heap.size ≤ gl[j]?.getD 0 ∧ BRow wr (gl[j]?.getD 0) (bitsN n (done[j]?.getD 0))
theorem PW.fin {us : List Un} {hs : List Hr} {n m mb : Nat} {w w2 : World} {gp c : Nat} {v : Int} {wr : World} (h : PW us hs n m mb w w2 gp m wr) (hnl : us.length = n) (hml : hs.length = m) (hgp : w.heap.size ≤ gp) (hb : bestV us hs = some (c, v)) : OwnPl wr w.heap.size gp (planB us hs) := by
  obtain ⟨ss, done, gl, h1, _, _, _, h5, h6, h7⟩ := h
  have hd := h1.done (by simp [rowsOf, hml])
  obtain ⟨p1, p2, _⟩ := planB_shape hb
  have hpl : (planB us hs).length = m := by omega
  have e : planB us hs = done.map (bitsN n) := by unfold planB; rw [hd, hnl]
  refine ⟨hgp, gl, by omega, ?_, fun j hj => ?_⟩
  · rw [← plC_full h5 hpl fun r hr => by rw [p2 r hr, hnl]]
    exact h6
  · have hjd : j < done.length := by rw [e] at hj; simpa using hj
    refine ⟨(h7 j (by omega)).1, ?_⟩
    have := (h7 j (by omega)).2
    rw [e, List.getElem?_map, List.getElem?_eq_getElem hjd]
    rw [List.getElem?_eq_getElem hjd] at this
    exact this

theorem Blk.apart {w : World} {g g' : Nat} {t t' : TypeId} {cs cs' : Array Value} (h : Blk w g t cs) (h' : Blk w g' t' cs') (ht : t ≠ t') : g ≠ g' := by
  intro e
  subst e
  unfold Blk at h h'
  rw [h] at h'
  simp at h'
  exact ht h'.2
theorem st6_far {w : World} {g g' : Nat} {t : TypeId} {cs : Array Value} (h : Blk w g t cs) (hne : g ≠ g') (b0 b1 b2 b3 b4 b5 : Value) : Blk (st6 w g' b0 b1 b2 b3 b4 b5) g t cs :=
  (((((h.far (p := ⟨g', 0, none⟩) hne b0).far (p := ⟨g', 1, none⟩) hne b1).far (p := ⟨g', 2, none⟩) hne b2).far (p := ⟨g', 3, none⟩) hne b3).far (p := ⟨g', 4, none⟩) hne b4).far (p := ⟨g', 5, none⟩) hne b5
theorem st6_heap {w : World} {g k : Nat} (h : k ≠ g) (b0 b1 b2 b3 b4 b5 : Value) : (st6 w g b0 b1 b2 b3 b4 b5).heap[k]? = w.heap[k]? :=
  (Below.heap_setCell _ ⟨g, 5, none⟩ b5 k h).trans ((Below.heap_setCell _ ⟨g, 4, none⟩ b4 k h).trans ((Below.heap_setCell _ ⟨g, 3, none⟩ b3 k h).trans ((Below.heap_setCell _ ⟨g, 2, none⟩ b2 k h).trans ((Below.heap_setCell _ ⟨g, 1, none⟩ b1 k h).trans (Below.heap_setCell _ ⟨g, 0, none⟩ b0 k h)))))
theorem st6_bm {mb B : Nat} {w0 w : World} (h : Bm mb B w0 w) {g : Nat} (hg : B ≤ g) (b0 b1 b2 b3 b4 b5 : Value) : Bm mb B w0 (st6 w g b0 b1 b2 b3 b4 b5) :=
  (((((h.set (p := ⟨g, 0, none⟩) hg b0).set (p := ⟨g, 1, none⟩) hg b1).set (p := ⟨g, 2, none⟩) hg b2).set (p := ⟨g, 3, none⟩) hg b3).set (p := ⟨g, 4, none⟩) hg b4).set (p := ⟨g, 5, none⟩) hg b5
/-- The blocks of a round: behind best, behind choice, behind the store of the row, behind move. -/
structure Rd (us : List Un) (hs : List Hr) (n m mb : Nat) (w2 : World) (gp k : Nat) (ss : List Int) (gl : List Nat) (o : Obj) (w5 w7 w9 : World) (g : Nat) : Prop where
  b6 : Bm mb w2.heap.size w2 (w5.alloc o)
  p7 : Blk w7 gp 35 (plC m n gl)
  t8 : Blk (w7.setCell ⟨gp, k, none⟩ (.slice (some ⟨g, 0, none⟩) n n)) (gp + 1) 71 (ptC (k : Int) ss)
  b8 : Bm mb w2.heap.size w2 (w7.setCell ⟨gp, k, none⟩ (.slice (some ⟨g, 0, none⟩) n n))
theorem Rd.first {us : List Un} {hs : List Hr} {n m mb : Nat} {w2 wv w5 : World} {gp k : Nat} {ss : List Int} {gl : List Nat} (q2 : Bm mb w2.heap.size w2 wv) (hb5 : Bm mb wv.heap.size wv w5) (o : Obj) : Bm mb w2.heap.size w2 (w5.alloc o) :=
  (q2.trans (hb5.mono q2.size)).trans (Bm.of (Below.mono ((Kp.refl w5).alloc o) (Nat.le_trans q2.size hb5.size)))
theorem Rd.mid {us : List Un} {hs : List Hr} {n m mb : Nat} {w2 wv w5 w7 : World} {gp k g : Nat} {ss : List Int} {gl : List Nat} (q2 : Bm mb w2.heap.size w2 wv) (q3 : KnR (bsV us (rowsOf us hs) n) n wv mb) (q4 : Blk wv (gp + 1) 71 (ptC (k : Int) ss)) (q6 : Blk wv gp 35 (plC m n gl)) (h2 : w2.heap.size ≤ gp)
    (hb5 : Bm mb wv.heap.size wv w5) (o : Obj) (hb7 : Below (w5.alloc o).heap.size (w5.alloc o) w7) : Rd us hs n m mb w2 gp k ss gl o w5 w7 w7 g := by
  have b6 := Rd.first (us := us) (hs := hs) (n := n) (m := m) (gp := gp) (k := k) (ss := ss) (gl := gl) q2 hb5 o
  have k7 : Kp w5 w7 := Kp.trans ((Kp.refl w5).alloc o) hb7
  have p7 := Kp.blk k7 (Bm.blkK q3 hb5 q6)
  have t7 := Kp.blk k7 (Bm.blkK q3 hb5 q4)
  exact ⟨b6, p7, t7.far (p := ⟨gp, k, none⟩) (by simp) _, (b6.trans (Bm.of (Below.mono hb7 b6.size))).set (p := ⟨gp, k, none⟩) h2 _⟩
theorem PW.step {us : List Un} {hs : List Hr} {n m mb : Nat} {w w2 wv w5 w7 w9 : World} {gp k g c1 : Nat} {ss r : List Int} {done gl : List Nat} (q2 : Bm mb w2.heap.size w2 wv) (q3 : KnR (bsV us (rowsOf us hs) n) n wv mb) (q4 : Blk wv (gp + 1) 71 (ptC (k : Int) ss)) (q5 : gl.length = k) (q6 : Blk wv gp 35 (plC m n gl))
    (q7 : ∀ j, j < k → w.heap.size ≤ gl[j]?.getD 0 ∧ BRow wv (gl[j]?.getD 0) (bitsN n (done[j]?.getD 0))) (h2 : w2.heap.size ≤ gp) (hw : w.heap.size ≤ w2.heap.size) (hmb : mb < w2.heap.size) (hkm : k < m)
    (hb5 : Bm mb wv.heap.size wv w5) (hk5 : KnR (bsV us (rowsOf us hs) n) n w5 mb) (o : Obj) (hb7 : Below (w5.alloc o).heap.size (w5.alloc o) w7) (hrow : BRow w7 g (bitsN n c1)) (hg : (w5.alloc o).heap.size ≤ g)
    (hb9 : Below (w7.setCell ⟨gp, k, none⟩ (.slice (some ⟨g, 0, none⟩) n n)).heap.size (w7.setCell ⟨gp, k, none⟩ (.slice (some ⟨g, 0, none⟩) n n)) w9) (hd : done.length = k) (g4 : Way us (rowsOf us hs) n (planC us hs) (k + 1) r (done ++ [c1])) {b0 b1 b2 b3 b4 b5 : Value} (he : #[b0, b1, b2, b3, b4, b5] = ptC ((k + 1 : Nat) : Int) r) :
    PW us hs n m mb w w2 gp (k + 1) (st6 w9 (gp + 1) b0 b1 b2 b3 b4 b5) := by
  obtain ⟨b6, p7, t8, b8⟩ := Rd.mid (g := g) q2 q3 q4 q6 h2 hb5 o hb7
  have k7 : Kp w5 w7 := Kp.trans ((Kp.refl w5).alloc o) hb7
  have t7 := Kp.blk k7 (Bm.blkK q3 hb5 q4)
  have t9 := Kp.blk hb9 t8
  have hsz : (w7.setCell ⟨gp, k, none⟩ (.slice (some ⟨g, 0, none⟩) n n)).heap.size = w7.heap.size := World.size_setCell ..
  have hrows : ∀ g' xs, BRow w7 g' xs → BRow (st6 w9 (gp + 1) b0 b1 b2 b3 b4 b5) g' xs := fun g' xs hx => by
    have n1 := Blk.apart hx p7 (by decide)
    have n2 := Blk.apart hx t7 (by decide)
    exact st6_far (Kp.blk hb9 (Blk.far hx (p := ⟨gp, k, none⟩) n1 _)) n2 _ _ _ _ _ _
  refine ⟨r, done ++ [c1], gl ++ [g], g4, st6_bm (b8.trans (Bm.of (Below.mono hb9 b8.size))) (by omega) _ _ _ _ _ _, ?_, ?_, by simp [q5], ?_, fun j hj => ?_⟩
  · have kn7 := hk5.bm k7
    have kn8 : KnR (bsV us (rowsOf us hs) n) n (w7.setCell ⟨gp, k, none⟩ (.slice (some ⟨g, 0, none⟩) n n)) mb := kn7.keep (Below.heap_setCell _ ⟨gp, k, none⟩ _ _ (show mb ≠ gp by omega))
    exact (kn8.bm hb9).keep (st6_heap (by omega) _ _ _ _ _ _)
  · rw [← he]
    exact Blk.set6 (show Blk w9 (gp + 1) 71 #[_, _, _, _, _, _] from t9) _ _ _ _ _ _
  · refine st6_far (Kp.blk hb9 ?_) (by omega) _ _ _ _ _ _
    have := p7.set k (.slice (some ⟨g, 0, none⟩) n n)
    rw [← q5] at this ⊢
    rwa [plC_set (by omega)] at this
  · by_cases hjk : j = k
    · subst hjk
      rw [List.getElem?_append_right (by omega), q5, Nat.sub_self, List.getElem?_append_right (by omega), hd, Nat.sub_self]
      refine ⟨?_, hrows _ _ hrow⟩
      have h3 := b6.size
      simp only [List.getElem?_cons_zero, Option.getD_some]
      omega
    · rw [List.getElem?_append_left (by omega), List.getElem?_append_left (by omega)]
      have h7 := q7 j (by omega)
      exact ⟨h7.1, hrows _ _ (Kp.blk k7 (Bm.blkK q3 hb5 h7.2))⟩

end Go.Proofs.YtdoeejcmaeefcaaGreat

namespace Go.Proofs.YtdoeejcmaeefcaaGreat
set_option linter.unusedVariables false
set_option linter.unusedSimpArgs false
open Go.RowKit
open Wd
open Cm

set_option maxRecDepth 100000 in
set_option maxHeartbeats 8000000 in
theorem plan_raw (A B : Option Addr) (n c m d : Nat) (us : List Un) (hs : List Hr) (w : World) (h : UsAt w A n us) (h' : HsAt w B m hs) (ho : HsOk hs) (hm : n ≤ 1000000000000) (hm' : m ≤ 1000000000000) :
    Calls Tryz.prog 18 #[.slice A n c, .slice B m d] w (PnR us hs w) := by
  have T0 := Lib.hid (ccheck_raw A B n c m d us hs w h h' ho hm hm')
  have HU := Lib.hid h
  have HH := Lib.hid h'
  by_cases hc : cchk us hs = 0
  · rw [hc] at T0
    obtain ⟨k1, k2, k3, k4, k5⟩ := cchk_ok.1 hc
    have hnl := h.1
    have hml := h'.1
    have hn5 : n ≤ 5 := by omega
    have hm8 : m ≤ 8 := by omega
    have HK2 := Lib.hid k2
    have HC := Lib.hid hc
    have T1 := Lib.hid (fun W (hW : Kp w W) => newSearch_raw A B n c m d us hs W (HU.out.below hW) (HH.out.below hW) hc)
    have HRL := Lib.hid (show (rowsOf us hs).length = m by simp [rowsOf, hml])
    have HBV := Lib.hid (bestV_eq (us := us) (hs := hs) hnl)
    have HIP := Lib.hid (initS_pt hnl k2)
    have HNL := Lib.hid hnl
    have HML := Lib.hid hml
    clear h h' ho hm hm' hc k1 k2 k3 k4 k5 hnl hml
    go_enter Tryz.func18, Tryz.ntmps18
    go_wp2_with fail
    refine T0.out.mono ?_
    rintro e w1 ⟨rfl, hb1⟩
    have HB1 := Lib.hid hb1
    clear T0 hb1
    go_wp2_with fail
    refine (T1.out w1 HB1.out).mono ?_
    rintro e w2 ⟨gs, As, ca, mb, rfl, hS, hK, hb2, hgs, hmb⟩
    have kw2 : Kp w w2 := Kp.trans HB1.out hb2
    have HW2 := Lib.hid (And.intro hS (And.intro hK (And.intro (Nat.le_trans HB1.out.size hgs) (And.intro (Nat.le_trans HB1.out.size hmb) kw2))))
    have HST := Lib.hid (show Kp w2 (w2.alloc (.cells #[.int .i64 0, .int .i64 0, .int .i64 0, .int .i64 0, .int .i64 0, .int .i64 0] 71)) ∧ Blk (w2.alloc (.cells #[.int .i64 0, .int .i64 0, .int .i64 0, .int .i64 0, .int .i64 0, .int .i64 0] 71)) w2.heap.size 71 (ptC 0 []) from ⟨(Kp.refl w2).alloc _, Blk.new w2 _ _⟩)
    clear T1 hS hK hb2 hgs hmb kw2
    go_wp2_with fail
    go_loopw [27] (fun t wr => ∃ (k : Nat), k ≤ n ∧ t = .int .i64 k ∧ Hid (Kp w2 wr ∧ Blk wr w2.heap.size 71 (ptC 0 ((initS us).take k)))) (fun t _ => n - (intOf t).toNat)
    case atStart => exact ⟨0, Nat.zero_le _, rfl, HST.out⟩
    case round =>
      clear HST
      obtain ⟨k, hk, rfl, hR⟩ := hrel
      obtain ⟨wu, rfl⟩ : ∃ v, v = wr := ⟨_, rfl⟩
      by_cases hlt : k < n
      · obtain ⟨bu, ou, rfl, hbu, hcu⟩ := HU.out.2 (by omega)
        have hwu : Kp w wu := Kp.trans HW2.out.2.2.2.2 hR.out.1
        have hkl : k < us.length := by rw [HNL.out]; exact hlt
        have huv := HK2.out _ (gmem (d := U0) hkl)
        have hu0 := hcu k hlt
        have HIK := Lib.hid (show (initS us).take (k + 1) = (initS us).take k ++ [uinit (us[k]?.getD U0)] by
          have hki : k < (initS us).length := by simp [initS]; exact hkl
          rw [List.take_succ_eq_append_getElem hki, ← initS_get hkl, List.getElem?_eq_getElem hki]
          rfl)
        have HIL := Lib.hid (show ((initS us).take k).length = k by rw [List.length_take]; simp [initS]; omega)
        generalize us[k]?.getD U0 = u at *
        obtain ⟨bus, mn, st, up, dn, start, idle, spin, on⟩ := u
        obtain ⟨A', n', c', ⟨h0, h1, h2, h3, h4, h5', h6, h7, h8⟩, hst, hn'⟩ := hu0
        simp only at h0 h1 h2 h3 h4 h5' h6 h7 h8 hst
        replace h0 := (Below.cell hwu (p := ⟨bu, ou + k * 9, none⟩) hbu).trans h0
        replace h1 := (Below.cell hwu (p := ⟨bu, ou + k * 9 + 1, none⟩) hbu).trans h1
        replace h2 := (Below.cell hwu (p := ⟨bu, ou + k * 9 + 2, none⟩) hbu).trans h2
        replace h3 := (Below.cell hwu (p := ⟨bu, ou + k * 9 + 3, none⟩) hbu).trans h3
        replace h4 := (Below.cell hwu (p := ⟨bu, ou + k * 9 + 4, none⟩) hbu).trans h4
        replace h5' := (Below.cell hwu (p := ⟨bu, ou + k * 9 + 5, none⟩) hbu).trans h5'
        replace h6 := (Below.cell hwu (p := ⟨bu, ou + k * 9 + 6, none⟩) hbu).trans h6
        replace h7 := (Below.cell hwu (p := ⟨bu, ou + k * 9 + 7, none⟩) hbu).trans h7
        replace h8 := (Below.cell hwu (p := ⟨bu, ou + k * 9 + 8, none⟩) hbu).trans h8
        have kA := (Kp.refl wu).alloc (.cells #[.int .i64 bus, .int .i64 mn, .slice A' n' c', .int .i64 up, .int .i64 dn, .int .i64 start, .int .i64 idle, .int .i64 spin, .int .i64 on] 39)
        have T := Lib.hid (uInitial_raw bus mn up dn start idle spin on A' n' c' st (wu.alloc (.cells #[.int .i64 bus, .int .i64 mn, .slice A' n' c', .int .i64 up, .int .i64 dn, .int .i64 start, .int .i64 idle, .int .i64 spin, .int .i64 on] 39)) (hst.below (Kp.trans hwu kA)) hn' huv)
        generalize hui : uinit (⟨bus, mn, st, up, dn, start, idle, spin, on⟩ : Un) = t0 at *
        have HRA := Lib.hid (And.intro (Kp.trans hR.out.1 kA) (Kp.blk kA hR.out.2))
        have j1 : (0 : Int) ≤ (k : Int) := by omega
        have j2 : (k : Int) < (n : Int) := by omega
        have j3 : (k : Int) < 5 := by omega
        clear hR hcu huv hst hn' kA hwu hkl hui
        go_wp2_with fail
        refine T.out.mono ?_
        rintro e w3 ⟨rfl, hb3⟩
        have hB3 := Kp.blk hb3 HRA.out.2
        obtain ⟨old, hold⟩ : ∃ v, (ptC 0 ((initS us).take k))[1 + k]? = some v := ⟨_, Array.getElem?_eq_getElem (show 1 + k < 6 by omega)⟩
        have z0 := (hB3.cell (1 + k)).trans hold
        have z1 := hB3.frozen (1 + k)
        have HN := Lib.hid (show Kp w2 (w3.setCell ⟨w2.heap.size, 1 + k, none⟩ (.int .i64 t0)) ∧ Blk (w3.setCell ⟨w2.heap.size, 1 + k, none⟩ (.int .i64 t0)) w2.heap.size 71 (ptC 0 ((initS us).take (k + 1))) from ⟨(Kp.trans HRA.out.1 hb3).set (p := ⟨w2.heap.size, 1 + k, none⟩) (Nat.le_refl _) _, by
          have h9 := hB3.set (1 + k) (.int .i64 t0)
          have hl := HIL.out
          have hp := ptC_put (h := 0) (t := t0) (r := (initS us).take k) (by omega)
          rw [hl] at hp
          rw [hp] at h9
          rw [HIK.out]
          exact h9⟩)
        clear hB3 hold hb3 T h0 h1 h2 h3 h4 h5' h6 h7 h8
        go_wp2
        go_roundw
        case rel => exact ⟨k + 1, by omega, by go_num, HN.out⟩
        case measure => simp [intOf]; omega
      · obtain rfl : n = k := by omega
        have hB8 : Blk wu w2.heap.size 71 (ptC 0 (initS us)) := by
          have h9 := hR.out.2
          rwa [List.take_of_length_le (by simp [initS]; have := HNL.out; omega)] at h9
        have TB := Lib.hid (fun (k : Nat) (ss : List Int) (W : World) (hk : k ≤ m) (hb : Bm mb w2.heap.size w2 W) (hkn : KnR (bsV us (rowsOf us hs) n) n W mb) (h3 : PtOk n ss) (h4 : ∀ i, i < n → StOk (us[i]?.getD U0) (ss[i]?.getD 0)) => best_raw us (rowsOf us hs) gs A n c m As ca mb (m - k) k (by omega) ss W (HW2.out.1.bm2 HW2.out.2.1 hb) hkn h3 h4)
        have hKu := HW2.out.2.1.bm hR.out.1
        have T := TB.out 0 (initS us) wu (Nat.zero_le _) (Bm.of hR.out.1) hKu HIP.out.1 HIP.out.2
        rw [HBV.out] at T
        have hwu : Kp w wu := Kp.trans HW2.out.2.2.2.2 hR.out.1
        have HR1 := Lib.hid hR.out.1
        have HWU := Lib.hid hwu
        have HKU := Lib.hid hKu
        have hBP := fun (a b c : Value) (W : World) => run_field_out a b c W
        obtain ⟨b, hbv⟩ : ∃ b, bestV us hs = b := ⟨_, rfl⟩
        rw [hbv] at T
        have HBB := Lib.hid hbv
        have HBW := Lib.hid (fun (w4 : World) (hb4 : Bm mb wu.heap.size wu w4) => Bm.below hwu hb4 HW2.out.2.2.2.1 hwu.size)
        have HB8 := Lib.hid hB8
        have HP0 := Lib.hid (show ptC 0 (initS us) = #[.int .i64 0, .int .i64 ((initS us)[0]?.getD 0), .int .i64 ((initS us)[1]?.getD 0), .int .i64 ((initS us)[2]?.getD 0), .int .i64 ((initS us)[3]?.getD 0), .int .i64 ((initS us)[4]?.getD 0)] from rfl)
        unfold ptC at hB8
        unfold ptV ptC at T
        generalize (initS us)[0]?.getD 0 = s0 at hB8 T HP0
        generalize (initS us)[1]?.getD 0 = s1 at hB8 T HP0
        generalize (initS us)[2]?.getD 0 = s2 at hB8 T HP0
        generalize (initS us)[3]?.getD 0 = s3 at hB8 T HP0
        generalize (initS us)[4]?.getD 0 = s4 at hB8 T HP0
        obtain ⟨p0, p1, p2, p3, p4, p5⟩ := hB8.six
        have HP8 := Lib.hid hB8
        clear hR hKu hwu hbv hB8
        cases b with
        | none =>
          have T' := Lib.hid (show Calls Tryz.prog 38 #[.pointer (some ⟨gs, 0, none⟩), .agg #[.int .i64 0, .int .i64 s0, .int .i64 s1, .int .i64 s2, .int .i64 s3, .int .i64 s4]] wu fun e w' => e = .returned (.agg #[.bool false, .int .i64 0, .int .i64 0]) ∧ Bm mb wu.heap.size wu w' ∧ KnR (bsV us (rowsOf us hs) n) n w' mb from T)
          have hnf : (!false) = true := rfl
          clear T
          go_wp2_with fail
          refine T'.out.mono ?_
          rintro e w4 ⟨rfl, hb4, hk4⟩
          have HF := Lib.hid (HBW.out w4 hb4)
          clear T' p0 p1 p2 p3 p4 p5 hb4 hk4
          go_wp2
          go_ret2
          exact ⟨HF.out, Or.inr (Or.inl ⟨HC.out, HBB.out, rfl⟩)⟩
        | some cv =>
          obtain ⟨c0, v0⟩ := cv
          have T' := Lib.hid (show Calls Tryz.prog 38 #[.pointer (some ⟨gs, 0, none⟩), .agg #[.int .i64 0, .int .i64 s0, .int .i64 s1, .int .i64 s2, .int .i64 s3, .int .i64 s4]] wu fun e w' => e = .returned (.agg #[.bool true, .int .i64 (c0 : Int), .int .i64 v0]) ∧ Bm mb wu.heap.size wu w' ∧ KnR (bsV us (rowsOf us hs) n) n w' mb from T)
          have hnf : (!true) = false := rfl
          have hmk := fun W => run_make_plan m (by omega) W
          clear T
          go_wp2_with fail
          refine T'.out.mono ?_
          rintro e w4 ⟨rfl, hb4, hk4⟩
          have hB84 := Bm.blkK HKU.out hb4 HP8.out
          have hB8s := Bm.blkK HKU.out hb4 HB8.out
          obtain ⟨x0, x1, x2, x3, x4, x5⟩ := (hB84.alloc (.cells (Array.replicate m (.slice none 0 0)) 35)).six
          have hz4 : w2.heap.size ≤ w4.heap.size := Nat.le_trans HR1.out.size hb4.size
          have hbw4 : Bm mb w2.heap.size w2 w4 := (Bm.of HR1.out).trans (hb4.mono HR1.out.size)
          have kA := ((Kp.refl w4).alloc (.cells (Array.replicate m (.slice none 0 0)) 35)).alloc (.cells #[.int .i64 0, .int .i64 s0, .int .i64 s1, .int .i64 s2, .int .i64 s3, .int .i64 s4] 71)
          have HW9 := Lib.hid (show PW us hs n m mb w w2 w4.heap.size 0 ((w4.alloc (.cells (Array.replicate m (.slice none 0 0)) 35)).alloc (.cells #[.int .i64 0, .int .i64 s0, .int .i64 s1, .int .i64 s2, .int .i64 s3, .int .i64 s4] 71)) from
            ⟨initS us, [], [], Way.start HNL.out HK2.out HBB.out, hbw4.trans (Bm.of (Below.mono kA hz4)), hk4.bm kA, by rw [← HP0.out]; exact Blk.new1 w4 _ _ _, rfl, by
              have := (Blk.new w4 35 (Array.replicate m (.slice none 0 0))).alloc (.cells #[.int .i64 0, .int .i64 s0, .int .i64 s1, .int .i64 s2, .int .i64 s3, .int .i64 s4] 71)
              simpa [plC] using this, fun j hj => absurd hj (by omega)⟩)
          have HG4 := Lib.hid hz4
          clear T' p0 p1 p2 p3 p4 p5 hb4 hk4 hB84 hB8s hbw4 hz4 kA
          go_wp2_with fail
          go_loopw [49] (fun t wr => ∃ k : Nat, k ≤ m ∧ t = .int .i64 k ∧ Hid (PW us hs n m mb w w2 w4.heap.size k wr)) (fun t _ => m - (intOf t).toNat)
          case atStart => exact ⟨0, Nat.zero_le _, rfl, HW9.out⟩
          case round =>
            clear HW9 x0 x1 x2 x3 x4 x5
            obtain ⟨k, hk, rfl, hR⟩ := hrel
            obtain ⟨wv, rfl⟩ : ∃ v, v = wr := ⟨_, rfl⟩
            by_cases hlt : k < m
            · obtain ⟨ss, done, gl, q1, q2, q3, q4, q5, q6, q7⟩ := hR.out
              obtain ⟨c1, v1, r, x, g1, g2, g3, g4⟩ := q1.step HNL.out HK2.out (by rw [HRL.out]; exact hlt)
              obtain ⟨hdl, _, _, hpt, hst⟩ := id q1
              have T := TB.out k ss wv (by omega) q2 q3 hpt hst
              rw [g1] at T
              have T1 := (show Calls Tryz.prog 38 #[.pointer (some ⟨gs, 0, none⟩), .agg #[.int .i64 (k : Int), .int .i64 (ss[0]?.getD 0), .int .i64 (ss[1]?.getD 0), .int .i64 (ss[2]?.getD 0), .int .i64 (ss[3]?.getD 0), .int .i64 (ss[4]?.getD 0)]] wv fun e w' => e = .returned (.agg #[.bool true, .int .i64 (c1 : Int), .int .i64 v1]) ∧ Bm mb wv.heap.size wv w' ∧ KnR (bsV us (rowsOf us hs) n) n w' mb from T)
              have TM := (fun (W : World) (hb : Bm mb w2.heap.size w2 W) => (show Calls Tryz.prog 40 #[.pointer (some ⟨gs, 0, none⟩), .agg #[.int .i64 (k : Int), .int .i64 (ss[0]?.getD 0), .int .i64 (ss[1]?.getD 0), .int .i64 (ss[2]?.getD 0), .int .i64 (ss[3]?.getD 0), .int .i64 (ss[4]?.getD 0)], .int .i64 (c1 : Int)] W fun e w' => e = .returned (.tuple #[.agg #[.int .i64 ((k + 1 : Nat) : Int), .int .i64 (r[0]?.getD 0), .int .i64 (r[1]?.getD 0), .int .i64 (r[2]?.getD 0), .int .i64 (r[3]?.getD 0), .int .i64 (r[4]?.getD 0)], .int .i64 x, .bool true]) ∧ Below W.heap.size W w' from (by
                have h9 := move_raw us (rowsOf us hs) gs A n c m As ca mb k ss c1 W (HW2.out.1.bm2 HW2.out.2.1 hb) hlt g3 hpt hst
                rw [g2] at h9
                exact h9)))
              have TC := Lib.hid (fun (W : World) (hb : Bm mb w2.heap.size w2 W) => (show Calls Tryz.prog 39 #[.pointer (some ⟨gs, 0, none⟩), .int .i64 (c1 : Int)] W fun e w' => ∃ g, e = .returned (.slice (some ⟨g, 0, none⟩) n n) ∧ BRow w' g (bitsN n c1) ∧ W.heap.size ≤ g ∧ Below W.heap.size W w' from (by
                obtain ⟨cs, z1, z2⟩ := (HW2.out.1.bm2 HW2.out.2.1 hb).blk
                exact choice_raw gs A n c c1 W ((z1.cell 0).trans z2.units) z1.lt hn5 g3)))
              have HPS := Lib.hid (show ptC (k : Int) ss = #[.int .i64 (k : Int), .int .i64 (ss[0]?.getD 0), .int .i64 (ss[1]?.getD 0), .int .i64 (ss[2]?.getD 0), .int .i64 (ss[3]?.getD 0), .int .i64 (ss[4]?.getD 0)] from rfl)
              have HPR := Lib.hid (show #[.int .i64 ((k + 1 : Nat) : Int), .int .i64 (r[0]?.getD 0), .int .i64 (r[1]?.getD 0), .int .i64 (r[2]?.getD 0), .int .i64 (r[3]?.getD 0), .int .i64 (r[4]?.getD 0)] = ptC ((k + 1 : Nat) : Int) r from rfl)
              have HQ := Lib.hid (And.intro q2 (And.intro q3 (And.intro q4 (And.intro q5 (And.intro q6 q7)))))
              have HG := Lib.hid (And.intro hdl g4)
              clear T hR q1 q2 q3 q4 q5 q6 q7 g1 g2 g3 g4 hpt hst hdl
              generalize ss[0]?.getD 0 = t0 at T1 TM HPS
              generalize ss[1]?.getD 0 = t1 at T1 TM HPS
              generalize ss[2]?.getD 0 = t2 at T1 TM HPS
              generalize ss[3]?.getD 0 = t3 at T1 TM HPS
              generalize ss[4]?.getD 0 = t4 at T1 TM HPS
              generalize r[0]?.getD 0 = r0 at TM HPR
              generalize r[1]?.getD 0 = r1 at TM HPR
              generalize r[2]?.getD 0 = r2 at TM HPR
              generalize r[3]?.getD 0 = r3 at TM HPR
              generalize r[4]?.getD 0 = r4 at TM HPR
              obtain ⟨kk, hkk⟩ : ∃ kk : Int, ((k + 1 : Nat) : Int) = kk := ⟨_, rfl⟩
              have HPR2 := Lib.hid (show #[.int .i64 kk, .int .i64 r0, .int .i64 r1, .int .i64 r2, .int .i64 r3, .int .i64 r4] = ptC ((k + 1 : Nat) : Int) r from by rw [← HPR.out, hkk])
              rw [hkk] at TM
              have HT1 := Lib.hid T1
              have HTM := Lib.hid TM
              have hbx := HQ.out.2.2.1
              rw [HPS.out] at hbx
              obtain ⟨p0, p1, p2, p3, p4, p5⟩ := Blk.six hbx
              have j1 : (0 : Int) ≤ (k : Int) := by omega
              have j2 : (k : Int) < (m : Int) := by omega
              clear T1 TM hkk hbx HPR
              go_wp2_with fail
              refine HT1.out.mono ?_
              rintro e w5 ⟨rfl, hb5, hk5⟩
              have HB5 := Lib.hid (And.intro hb5 hk5)
              have HT2 := Lib.hid (TC.out (w5.alloc (.cells #[.bool true, .int .i64 (c1 : Int), .int .i64 v1] 73)) (Rd.first (us := us) (hs := hs) (n := n) (m := m) (gp := 0) (k := k) (ss := ss) (gl := gl) HQ.out.1 hb5 _))
              clear p0 p1 p2 p3 p4 p5 HT1 TC hb5 hk5
              go_wp2_with fail
              refine HT2.out.mono ?_
              rintro e w7 ⟨g, rfl, hrow, hg, hb7⟩
              have hrd := Rd.mid (g := g) HQ.out.1 HQ.out.2.1 HQ.out.2.2.1 HQ.out.2.2.2.2.1 HG4.out HB5.out.1 _ hb7
              have hO7 := Kp.blk hb7 (Blk.new w5 73 #[.bool true, .int .i64 (c1 : Int), .int .i64 v1])
              have hne : w5.heap.size ≠ w4.heap.size := Nat.ne_of_gt (Nat.lt_of_lt_of_le (Nat.lt_of_lt_of_le (Nat.lt_succ_self _) (Nat.le_of_lt (HQ.out.2.2.1.lt))) HB5.out.1.size)
              have hO8 := hO7.far (p := ⟨w4.heap.size, k, none⟩) hne (.slice (some ⟨g, 0, none⟩) n n)
              obtain ⟨old, hold⟩ : ∃ v, (plC m n gl)[k]? = some v := ⟨_, Array.getElem?_eq_getElem (by rw [plC_size (by have := HQ.out.2.2.2.1; omega)]; exact hlt)⟩
              have y0 := (hrd.p7.cell k).trans hold
              have y1 := hrd.p7.frozen k
              have ht8 := hrd.t8
              rw [HPS.out] at ht8
              obtain ⟨p0, p1, p2, p3, p4, p5⟩ := Blk.six ht8
              obtain ⟨o0, o1, o2, _, _, _⟩ := Blk.three hO7
              obtain ⟨n0, n1, n2, _, _, _⟩ := Blk.three hO8
              have HT3 := Lib.hid (HTM.out _ hrd.b8)
              have HRD := Lib.hid (And.intro hrow (And.intro hg (And.intro hb7 ht8)))
              clear HT2 HTM hrow hg hb7 hrd hO7 hO8 hold ht8 hne
              go_wp2_with fail
              refine HT3.out.mono ?_
              rintro e w9 ⟨rfl, hb9⟩
              have hB9 := Kp.blk hb9 HRD.out.2.2.2
              obtain ⟨x0, x1, x2, x3, x4, x5⟩ := hB9.six
              obtain ⟨f0, f1, f2, f3, f4, f5⟩ := hB9.frz6
              have HN := Lib.hid (show PW us hs n m mb w w2 w4.heap.size (k + 1) (st6 w9 (w4.heap.size + 1) (.int .i64 kk) (.int .i64 r0) (.int .i64 r1) (.int .i64 r2) (.int .i64 r3) (.int .i64 r4)) from
                PW.step HQ.out.1 HQ.out.2.1 HQ.out.2.2.1 HQ.out.2.2.2.1 HQ.out.2.2.2.2.1 HQ.out.2.2.2.2.2 HG4.out HW2.out.2.2.2.2.size HW2.out.2.1.lt hlt HB5.out.1 HB5.out.2 _ HRD.out.2.2.1 HRD.out.1 HRD.out.2.1 hb9 HG.out.1 HG.out.2 HPR2.out)
              clear HT3 hB9 hb9 p0 p1 p2 p3 p4 p5 o0 o1 o2 n0 n1 n2 y0 y1
              go_wp2
              go_roundw
              case rel => exact ⟨k + 1, by omega, by go_num, HN.out⟩
              case measure => simp [intOf]; omega
            · obtain rfl : m = k := by omega
              have HF := Lib.hid (show PnR us hs w (.returned (.tuple #[.slice (some ⟨w4.heap.size, 0, none⟩) m m, .int .i64 0])) wv by
                have hmb := HW2.out.2.2.2.1
                obtain ⟨ss, done, gl, q1, q2, q3, q4, q5, q6, q7⟩ := id hR.out
                refine ⟨Bm.below HW2.out.2.2.2.2 q2 hmb HW2.out.2.2.2.2.size, Or.inr (Or.inr ⟨HC.out, ⟨c0, v0, HBB.out⟩, w4.heap.size, by rw [HML.out], hR.out.fin HNL.out HML.out ?_ HBB.out⟩)⟩
                exact Nat.le_trans HW2.out.2.2.2.2.size HG4.out)
              clear hR
              go_wp2
              go_ret2
              exact HF.out
  · have hcb : (cchk us hs == 0) = false := by simp [hc]
    have hcn : (cchk us hs != 0) = true := by simp [hc]
    have HC := Lib.hid hc
    generalize hce : cchk us hs = e0 at *
    have HCE := Lib.hid hce
    clear h h' ho hm hm' hc hce
    go_enter Tryz.func18, Tryz.ntmps18
    go_wp2_with fail
    refine T0.out.mono ?_
    rintro e w1 ⟨rfl, hb1⟩
    have HB1 := Lib.hid hb1
    clear T0 hb1
    go_wp2
    go_ret2
    exact ⟨HB1.out, Or.inl ⟨by rw [HCE.out]; exact HC.out, by rw [HCE.out]; rfl⟩⟩

end Go.Proofs.YtdoeejcmaeefcaaGreat
