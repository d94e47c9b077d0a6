/-
Allocate of package energy: memory. No statement of the seat is proved here; no conditions beyond those of each theorem.
-/
import Derived.Test.YthpldmlpononhaaGreatE2
import Derived.Test.YthpldmlpononhaaGreatE1
import Derived.Test.YthpldmlpononhaaGreatS7
import Derived.Laws.MakeOwn
namespace Go.Proofs.YthpldmlpononhaaGreat
set_option linter.unusedVariables false
set_option linter.unusedSimpArgs false
open Go.RowKit
open Wd
open En (Pc PU)

/-- A block of integers of the call's own. -/
def IRow (w : World) (g : Nat) (xs : List Int) : Prop := Blk w g 2 (xs.map (Value.int .i64)).toArray
theorem IRow.cell {w : World} {g : Nat} {xs : List Int} (h : IRow w g xs) {i : Nat} (hi : i < xs.length) : w.cell? ⟨g, i, none⟩ = some (.int .i64 (xs[i]?.getD 0)) := by
  have := Blk.cell h i
  rw [this]; simp [hi]
theorem IRow.frozen {w : World} {g : Nat} {xs : List Int} (h : IRow w g xs) (i : Nat) : w.frozen? ⟨g, i, none⟩ = false := Blk.frozen h i
theorem IRow.set {w : World} {g : Nat} {xs : List Int} (h : IRow w g xs) (i : Nat) (v : Int) : IRow (w.setCell ⟨g, i, none⟩ (.int .i64 v)) g (xs.set i v) := by
  have := Blk.set h i (.int .i64 v)
  unfold IRow
  rw [List.map_set]
  simpa using this
theorem IRow.below {w w' : World} {g : Nat} {xs : List Int} (h : IRow w g xs) (hb : Below w.heap.size w w') : IRow w' g xs := Blk.below h hb (Blk.lt h)
theorem IRow.alloc {w : World} {g : Nat} {xs : List Int} (h : IRow w g xs) (o : Obj) : IRow (w.alloc o) g xs := Blk.alloc h o
theorem made_ints (n : Nat) : madeCells #[.int .i64 0] n = ((List.replicate n (0 : Int)).map (Value.int .i64)).toArray := by
  apply Array.ext
  · simp [size_madeCells]
  · intro i h1 h2
    simp [madeCells, Nat.mod_one]
theorem info_int64 : (Tryz.prog.info? 2).map (fun i => (i.zero, i.size, i.bytes)) = some (some (.int .i64 0), 1, 8) := by kernel_rfl
theorem run_make_ints (k : Nat) (hk : k ≤ 1000000000) (w : World) :
    (Instr.makeSlice 65 (.int .i64 (k : Int)) (.int .i64 (k : Int))).run Tryz.prog w = .ok (.slice (some ⟨w.heap.size, 0, none⟩) k k) (w.alloc (.cells ((List.replicate k (0 : Int)).map (Value.int .i64)).toArray 2)) := by
  obtain ⟨i0, hi, hz0, hz1, hz2⟩ := info_parts info_int64
  have h := run_make (P := Tryz.prog) w 65 2 i0 _ Tryz.underlying65 hi hz0 .i64 .i64 k k (by omega) (Int.le_refl _) (by rw [hz2]; omega) (by omega)
  rw [h, hz1]
  simp only [Int.toNat_natCast, Value.cells, Nat.mul_one]
  rw [made_ints]

/-- A block of fifteen pieces, of which the first are ps. -/
def PcB (w : World) (g : Nat) (t : TypeId) (ps : List Pc) : Prop :=
  ps.length ≤ 15 ∧ ∃ cs, Blk w g t cs ∧ cs.size = 45 ∧ ∀ j, j < ps.length → cs[j * 3]? = some (.int .i64 ((ps[j]?.getD (0, 0, 0)).1 : Int)) ∧ cs[j * 3 + 1]? = some (.int .i64 (ps[j]?.getD (0, 0, 0)).2.1) ∧ cs[j * 3 + 2]? = some (.int .i64 (ps[j]?.getD (0, 0, 0)).2.2)
theorem PcB.below {w w' : World} {g : Nat} {t : TypeId} {ps : List Pc} (h : PcB w g t ps) (hb : Below w.heap.size w w') : PcB w' g t ps := by
  obtain ⟨h1, cs, h2, h3⟩ := h
  exact ⟨h1, cs, h2.below hb h2.lt, h3⟩
theorem PcB.far {w : World} {g : Nat} {t : TypeId} {ps : List Pc} (h : PcB w g t ps) {p : Addr} (hp : g ≠ p.block) (v : Value) : PcB (w.setCell p v) g t ps := by
  obtain ⟨h1, cs, h2, h3⟩ := h
  exact ⟨h1, cs, h2.far hp v, h3⟩
theorem PcB.lt {w : World} {g : Nat} {t : TypeId} {ps : List Pc} (h : PcB w g t ps) : g < w.heap.size := by
  obtain ⟨_, cs, h2, _⟩ := h
  exact h2.lt
theorem PcB.push {w : World} {g : Nat} {t : TypeId} {ps : List Pc} (h : PcB w g t ps) (hl : ps.length < 15) (u : Nat) (q p : Int) :
    PcB (((w.setCell ⟨g, ps.length * 3, none⟩ (.int .i64 (u : Int))).setCell ⟨g, ps.length * 3 + 1, none⟩ (.int .i64 q)).setCell ⟨g, ps.length * 3 + 2, none⟩ (.int .i64 p)) g t (ps ++ [(u, q, p)]) := by
  obtain ⟨h1, cs, h2, h3, h4⟩ := h
  refine ⟨by simp; omega, _, ((h2.set _ _).set _ _).set _ _, by simp [h3], fun j hj => ?_⟩
  by_cases hjl : j = ps.length
  · subst hjl
    simp [Array.getElem?_setIfInBounds, h3]
    omega
  · have hj' : j < ps.length := by simp at hj; omega
    obtain ⟨e1, e2, e3⟩ := h4 j hj'
    have eg : (ps ++ [(u, q, p)])[j]?.getD (0, 0, 0) = ps[j]?.getD (0, 0, 0) := by rw [List.getElem?_append_left hj']
    rw [eg, ← e1, ← e2, ← e3]
    refine ⟨?_, ?_, ?_⟩
    · rw [Array.getElem?_setIfInBounds_ne (by omega), Array.getElem?_setIfInBounds_ne (by omega), Array.getElem?_setIfInBounds_ne (by omega)]
    · rw [Array.getElem?_setIfInBounds_ne (by omega), Array.getElem?_setIfInBounds_ne (by omega), Array.getElem?_setIfInBounds_ne (by omega)]
    · rw [Array.getElem?_setIfInBounds_ne (by omega), Array.getElem?_setIfInBounds_ne (by omega), Array.getElem?_setIfInBounds_ne (by omega)]
/-- The cells of the place behind the last piece are there. -/
theorem PcB.room {w : World} {g : Nat} {t : TypeId} {ps : List Pc} (h : PcB w g t ps) (hl : ps.length < 15) : ∃ a b c, w.cell? ⟨g, ps.length * 3, none⟩ = some a ∧ w.cell? ⟨g, ps.length * 3 + 1, none⟩ = some b ∧ w.cell? ⟨g, ps.length * 3 + 2, none⟩ = some c ∧
    w.frozen? ⟨g, ps.length * 3, none⟩ = false ∧ w.frozen? ⟨g, ps.length * 3 + 1, none⟩ = false ∧ w.frozen? ⟨g, ps.length * 3 + 2, none⟩ = false := by
  obtain ⟨h1, cs, h2, h3, h4⟩ := h
  exact ⟨cs[ps.length * 3], cs[ps.length * 3 + 1], cs[ps.length * 3 + 2], by rw [h2.cell]; simp, by rw [h2.cell]; simp, by rw [h2.cell]; simp, h2.frozen _, h2.frozen _, h2.frozen _⟩
theorem PcB.holds {w : World} {g : Nat} {t : TypeId} {ps : List Pc} (h : PcB w g t ps) : Go.Sort.HoldsK encP 3 w g 0 ps.toArray := by
  obtain ⟨h1, cs, h2, h3, h4⟩ := h
  intro j hj
  have hj' : j < ps.length * 3 := by simpa using hj
  rw [Go.Sort.get_flatK _ _ _ _ (by simpa using hj')]
  have hd : j / 3 < ps.length := by omega
  obtain ⟨e1, e2, e3⟩ := h4 (j / 3) hd
  have eg : ps.toArray[j / 3]! = ps[j / 3]?.getD (0, 0, 0) := by simp [hd]
  rw [eg, Nat.zero_add, h2.cell]
  refine ⟨?_, h2.frozen _⟩
  have h3' : j % 3 < 3 := Nat.mod_lt _ (by omega)
  have ej : j = j / 3 * 3 + j % 3 := by omega
  generalize j % 3 = m at *
  generalize j / 3 = q at *
  subst ej
  match m, h3' with
  | 0, _ => simpa [encP] using e1
  | 1, _ => simpa [encP] using e2
  | 2, _ => simpa [encP] using e3

def pus (us : List Un) (bs : List Bool) : List PU := (us.zip bs).map fun z => ⟨z.2, z.1.mn, z.1.st⟩


theorem IRow.start (w : World) (n : Nat) : IRow (w.alloc (.cells (Array.replicate n (.int .i64 0)) 2)) w.heap.size (List.replicate n 0) := by
  unfold IRow
  have := Blk.new w 2 (Array.replicate n (Value.int .i64 0))
  simpa using this
theorem PcB.start (w : World) (t : TypeId) (cs : Array Value) (h : cs.size = 45) : PcB (w.alloc (.cells cs t)) w.heap.size t [] := ⟨by simp, cs, Blk.new w t cs, h, fun j hj => absurd hj (by simp)⟩

theorem pus_len {us : List Un} {bs : List Bool} {n : Nat} (h : us.length = n) (h' : bs.length = n) : (pus us bs).length = n := by unfold pus; simp [h, h']
theorem pus_get {us : List Un} {bs : List Bool} {k : Nat} (h : k < us.length) (h' : k < bs.length) : (pus us bs)[k]?.getD ⟨false, 0, []⟩ = ⟨bs[k]?.getD false, (us[k]?.getD U0).mn, (us[k]?.getD U0).st⟩ := by
  unfold pus
  have hk : k < (us.zip bs).length := by rw [List.length_zip]; omega
  rw [List.getElem?_map, List.getElem?_eq_getElem hk, List.getElem_zip, List.getElem?_eq_getElem h, List.getElem?_eq_getElem h']
  rfl
def PU0 : PU := ⟨false, 0, []⟩
/-- The outputs before unit k is looked at. -/
def rowAt (zs : List PU) (k : Nat) : List Int := (zs.take k).map PU.dn ++ List.replicate (zs.length - k) 0
theorem rowAt_len (zs : List PU) (k : Nat) (hk : k ≤ zs.length) : (rowAt zs k).length = zs.length := by unfold rowAt; simp; omega
theorem take_snocP {zs : List PU} {k : Nat} (hk : k < zs.length) : zs.take (k + 1) = zs.take k ++ [zs[k]?.getD PU0] := by
  rw [List.take_succ_eq_append_getElem hk, List.getElem?_eq_getElem hk]; rfl
theorem rowAt_on {zs : List PU} {k : Nat} (hk : k < zs.length) : rowAt zs (k + 1) = (rowAt zs k).set k (zs[k]?.getD PU0).dn := by
  unfold rowAt
  rw [take_snocP hk, List.map_append, List.map_singleton, List.set_append_right _ _ (by simp; omega)]
  obtain ⟨m, hm⟩ : ∃ m, zs.length - k = m + 1 := ⟨zs.length - k - 1, by omega⟩
  have e : zs.length - (k + 1) = m := by omega
  have e2 : k - ((zs.take k).map PU.dn).length = 0 := by simp; omega
  rw [hm, e, e2, List.replicate_succ, List.set_cons_zero]
  simp
theorem rowAt_off {zs : List PU} {k : Nat} (hk : k < zs.length) (h : (zs[k]?.getD PU0).dn = 0) : rowAt zs (k + 1) = rowAt zs k := by
  unfold rowAt
  rw [take_snocP hk, List.map_append, List.map_singleton, h]
  obtain ⟨m, hm⟩ : ∃ m, zs.length - k = m + 1 := ⟨zs.length - k - 1, by omega⟩
  have e : zs.length - (k + 1) = m := by omega
  rw [hm, e, List.replicate_succ]
  simp
theorem rowAt_zero (zs : List PU) : rowAt zs 0 = List.replicate zs.length 0 := by simp [rowAt]
theorem rowAt_all (zs : List PU) : rowAt zs zs.length = zs.map PU.dn := by simp [rowAt]

theorem pieces_app : ∀ (a b : List PU) (k : Nat), En.pieces k (a ++ b) = En.pieces k a ++ En.pieces (k + a.length) b
  | [], b, k => by simp [En.pieces]
  | z :: a, b, k => by
    rw [List.cons_append, En.pieces, En.pieces, pieces_app a b (k + 1), List.append_assoc, List.length_cons, show k + 1 + a.length = k + (a.length + 1) by omega]
/-- The pieces of the first k units. -/
def psAt (zs : List PU) (k : Nat) : List Pc := En.pieces 0 (zs.take k)
theorem psAt_on {zs : List PU} {k : Nat} (hk : k < zs.length) (h : (zs[k]?.getD PU0).on = true) : psAt zs (k + 1) = psAt zs k ++ (En.left (zs[k]?.getD PU0).mn (zs[k]?.getD PU0).st).map fun s => (k, s.1, s.2) := by
  unfold psAt
  rw [take_snocP hk, pieces_app]
  have e : (zs.take k).length = k := by simp; omega
  rw [e, Nat.zero_add, En.pieces, En.pieces, if_pos h]
  simp
theorem psAt_off {zs : List PU} {k : Nat} (hk : k < zs.length) (h : (zs[k]?.getD PU0).on = false) : psAt zs (k + 1) = psAt zs k := by
  unfold psAt
  rw [take_snocP hk, pieces_app]
  have e : (zs.take k).length = k := by simp; omega
  rw [e, Nat.zero_add, En.pieces, En.pieces, if_neg (by rw [h]; simp)]
  simp
theorem left_len : ∀ (st : List (Int × Int)) (t : Int), (En.left t st).length = st.length
  | [], _ => rfl
  | s :: r, t => by rw [En.left, List.length_cons, List.length_cons, left_len r]
theorem psAt_len {zs : List PU} (h : ∀ z ∈ zs, z.st.length ≤ 3) : ∀ k, k ≤ zs.length → (psAt zs k).length ≤ 3 * k
  | 0, _ => by simp [psAt, En.pieces]
  | k + 1, hk => by
    have ih := psAt_len h k (by omega)
    cases hon : (zs[k]?.getD PU0).on
    · rw [psAt_off hk hon]; omega
    · rw [psAt_on hk hon, List.length_append, List.length_map, left_len]
      have hm : (zs[k]?.getD PU0) ∈ zs := by rw [List.getElem?_eq_getElem hk]; exact List.getElem_mem _
      have := h _ hm
      omega
theorem left_get : ∀ (st : List (Int × Int)) (t : Int) (j : Nat), j < st.length → (En.left t st)[j]? = some ((st[j]?.getD (0, 0)).1 - min (restI st t j) (st[j]?.getD (0, 0)).1, (st[j]?.getD (0, 0)).2)
  | [], _, _, h => absurd h (by simp)
  | s :: r, t, 0, _ => by simp [En.left, restI]
  | s :: r, t, j + 1, h => by
    rw [En.left, List.getElem?_cons_succ, left_get r _ j (by simpa using h), restI_cons]
    simp
theorem left_take {st : List (Int × Int)} {t : Int} {j : Nat} (h : j < st.length) : (En.left t st).take (j + 1) = (En.left t st).take j ++ [((st[j]?.getD (0, 0)).1 - min (restI st t j) (st[j]?.getD (0, 0)).1, (st[j]?.getD (0, 0)).2)] := by
  have hl : j < (En.left t st).length := by rw [left_len]; exact h
  have e := left_get st t j h
  rw [List.getElem?_eq_getElem hl] at e
  injection e with e
  rw [List.take_succ_eq_append_getElem hl, e]

theorem qs_eq : ∀ (l : List (Int × Int)), En.qs l = qsum l
  | [] => rfl
  | s :: r => by rw [En.qs, qs_eq r]; unfold qsum; simp
theorem chkFrom_up : ∀ {l : List (Int × Int)} {v : Int}, chkFrom true (some v) l = 0 → (∀ t ∈ l, v < t.2) ∧ En.Up l
  | [], _, _ => ⟨(fun t ht => by cases ht), trivial⟩
  | (q, p) :: r, v, h => by
    by_cases hb : Bad q p
    · rw [chkFrom_bad hb] at h; cases h
    · rw [chkFrom_next hb] at h
      cases hf : flw true v p
      · rw [hf] at h; simp at h
      · rw [hf] at h
        simp only [if_true] at h
        have hvp : v < p := by unfold flw at hf; simpa using hf
        obtain ⟨i1, i2⟩ := chkFrom_up h
        unfold Bad at hb
        refine ⟨fun t ht => ?_, by show 0 ≤ q; omega, i1, i2⟩
        rcases List.mem_cons.1 ht with rfl | ht
        · exact hvp
        · have := i1 t ht; omega
theorem chk_up {l : List (Int × Int)} (h : chk true l = 0) : En.Up l := by
  obtain ⟨_, _, hc, hb⟩ := chk_ok h
  match l, hc, hb with
  | [], _, _ => trivial
  | (q, p) :: r, hc, hb =>
    have hq := hb (q, p) (List.mem_cons_self ..)
    rw [chkFrom_first hq] at hc
    obtain ⟨i1, i2⟩ := chkFrom_up hc
    unfold Bad at hq
    exact ⟨by show 0 ≤ q; omega, i1, i2⟩
theorem pus_ok : ∀ {zs : List (Un × Bool)}, (∀ z ∈ zs, uchk z.1 = 0) → En.AllOk (zs.map fun z => ⟨z.2, z.1.mn, z.1.st⟩) ∧ En.sumR ((zs.map fun z => (⟨z.2, z.1.mn, z.1.st⟩ : PU)).map PU.dn) = rmin zs ∧ En.sumR ((zs.map fun z => (⟨z.2, z.1.mn, z.1.st⟩ : PU)).map PU.up) = rmax zs
  | [], _ => ⟨trivial, rfl, rfl⟩
  | z :: zs, h => by
    obtain ⟨i1, i2, i3⟩ := pus_ok (zs := zs) fun y hy => h y (List.mem_cons_of_mem _ hy)
    obtain ⟨u1, u2, u3, u4, u5, u6⟩ := uchk_ok (h z (List.mem_cons_self ..))
    refine ⟨⟨⟨chk_up u1, u2, by show z.1.mn ≤ En.qs z.1.st; rw [qs_eq]; exact u3⟩, i1⟩, ?_, ?_⟩
    · have e1 : rmin (z :: zs) = (if z.2 then z.1.mn else 0) + rmin zs := by unfold rmin; simp
      rw [List.map_cons, List.map_cons, En.sumR, i2, e1]
      rfl
    · have e2 : rmax (z :: zs) = (if z.2 then umax z.1 else 0) + rmax zs := by unfold rmax; simp
      rw [List.map_cons, List.map_cons, En.sumR, i3, e2, u6, ← qs_eq]
      rfl

/-- The pieces ps lie in block g. -/
def PcH (w : World) (g : Nat) (ps : List Pc) : Prop :=
  g < w.heap.size ∧ ∀ j, j < ps.length → w.cell? ⟨g, j * 3, none⟩ = some (.int .i64 ((ps[j]?.getD (0, 0, 0)).1 : Int)) ∧ w.cell? ⟨g, j * 3 + 1, none⟩ = some (.int .i64 (ps[j]?.getD (0, 0, 0)).2.1) ∧ w.cell? ⟨g, j * 3 + 2, none⟩ = some (.int .i64 (ps[j]?.getD (0, 0, 0)).2.2)
theorem PcH.of {w : World} {g : Nat} {ps : List Pc} (hg : g < w.heap.size) (h : Go.Sort.HoldsK encP 3 w g 0 ps.toArray) : PcH w g ps := by
  refine ⟨hg, fun j hj => ?_⟩
  have eg : ps.toArray[j]! = ps[j]?.getD (0, 0, 0) := by simp [hj]
  have c0 := (h.cell (i := j) (c := 0) (by simpa using hj) (by omega)).1
  have c1 := (h.cell (i := j) (c := 1) (by simpa using hj) (by omega)).1
  have c2 := (h.cell (i := j) (c := 2) (by simpa using hj) (by omega)).1
  rw [eg, Nat.zero_add] at c0 c1 c2
  exact ⟨c0, c1, c2⟩
theorem PcH.alloc {w : World} {g : Nat} {ps : List Pc} (h : PcH w g ps) (o : Obj) : PcH (w.alloc o) g ps := by
  refine ⟨by rw [World.size_alloc]; exact Nat.lt_succ_of_lt h.1, fun j hj => ?_⟩
  rw [World.cell?_alloc_past _ _ _ h.1, World.cell?_alloc_past _ _ _ h.1, World.cell?_alloc_past _ _ _ h.1]
  exact h.2 j hj
theorem PcH.far {w : World} {g : Nat} {ps : List Pc} (h : PcH w g ps) {p : Addr} (hp : g ≠ p.block) (v : Value) : PcH (w.setCell p v) g ps := by
  refine ⟨by simpa [World.setCell] using h.1, fun j hj => ?_⟩
  have hc : ∀ i, (w.setCell p v).cell? ⟨g, i, none⟩ = w.cell? ⟨g, i, none⟩ := fun i => World.cell?_of_block (w := w) (Below.heap_setCell w p v g hp)
  rw [hc, hc, hc]
  exact h.2 j hj
theorem grown_below {B g : Nat} {w W w' : World} (h : Below B w W) (hg : W.grownBy w' (some g)) (hB : B ≤ g) (hs : B ≤ W.heap.size) : Below B w w' :=
  ⟨hg.os.trans h.os, hg.tape.trans h.tape, hg.output.trans h.output, Nat.le_trans h.size hg.size, fun k hk => (hg.block k (by omega) (fun e => by injection e with e; omega)).trans (h.block k hk)⟩
theorem grown_blk {g g' : Nat} {t : TypeId} {cs : Array Value} {W w' : World} (hg : W.grownBy w' (some g)) (h : Blk W g' t cs) (hne : g' ≠ g) : Blk w' g' t cs :=
  (hg.block g' h.lt (fun e => hne (by injection e))).trans h

end Go.Proofs.YthpldmlpononhaaGreat
