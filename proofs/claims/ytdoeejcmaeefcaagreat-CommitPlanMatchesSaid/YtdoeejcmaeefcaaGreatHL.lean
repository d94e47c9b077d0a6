/-
Allocate of package energy: memory. Allocate of package energy: the walk. No statement of the seat is proved here; no conditions beyond those of each theorem.
-/
import Derived.Test.YtdoeejcmaeefcaaGreatHB
import Derived.Test.YtdoeejcmaeefcaaGreatHI
import Derived.Test.YtdoeejcmaeefcaaGreatHK
import Derived.Laws.MakeOwn
namespace Go.Proofs.YtdoeejcmaeefcaaGreat
set_option linter.unusedVariables false
set_option linter.unusedSimpArgs false
open Go.RowKit
open Wd
open En (Pc PU)

/-- A block of integers of the call's own. -/
def IRow (w : World) (g : Nat) (xs : List Int) : Prop := Blk w g 2 (xs.map (Value.int .i64)).toArray
theorem IRow.cell {w : World} {g : Nat} {xs : List Int} (h : IRow w g xs) {i : Nat} (hi : i < xs.length) : w.cell? ⟨g, i, none⟩ = some (.int .i64 (xs[i]?.getD 0)) := by
  have := Blk.cell h i
  rw [this]; simp [hi]
theorem IRow.frozen {w : World} {g : Nat} {xs : List Int} (h : IRow w g xs) (i : Nat) : w.frozen? ⟨g, i, none⟩ = false := Blk.frozen h i
theorem IRow.set {w : World} {g : Nat} {xs : List Int} (h : IRow w g xs) (i : Nat) (v : Int) : IRow (w.setCell ⟨g, i, none⟩ (.int .i64 v)) g (xs.set i v) := by
  have := Blk.set h i (.int .i64 v)
  unfold IRow
  rw [List.map_set]
  simpa using this
theorem IRow.below {w w' : World} {g : Nat} {xs : List Int} (h : IRow w g xs) (hb : Below w.heap.size w w') : IRow w' g xs := Blk.below h hb (Blk.lt h)
theorem IRow.alloc {w : World} {g : Nat} {xs : List Int} (h : IRow w g xs) (o : Obj) : IRow (w.alloc o) g xs := Blk.alloc h o
theorem made_ints (n : Nat) : madeCells #[.int .i64 0] n = ((List.replicate n (0 : Int)).map (Value.int .i64)).toArray := by
  apply Array.ext
  · simp [size_madeCells]
  · intro i h1 h2
    simp [madeCells, Nat.mod_one]
theorem info_int64 : (Tryz.prog.info? 2).map (fun i => (i.zero, i.size, i.bytes)) = some (some (.int .i64 0), 1, 8) := by kernel_rfl
theorem run_make_ints (k : Nat) (hk : k ≤ 1000000000) (w : World) :
    (Instr.makeSlice 84 (.int .i64 (k : Int)) (.int .i64 (k : Int))).run Tryz.prog w = .ok (.slice (some ⟨w.heap.size, 0, none⟩) k k) (w.alloc (.cells ((List.replicate k (0 : Int)).map (Value.int .i64)).toArray 2)) := by
  obtain ⟨i0, hi, hz0, hz1, hz2⟩ := info_parts info_int64
  have h := run_make (P := Tryz.prog) w 84 2 i0 _ Tryz.underlying84 hi hz0 .i64 .i64 k k (by omega) (Int.le_refl _) (by rw [hz2]; omega) (by omega)
  rw [h, hz1]
  simp only [Int.toNat_natCast, Value.cells, Nat.mul_one]
  rw [made_ints]

/-- A block of fifteen pieces, of which the first are ps. -/
def PcB (w : World) (g : Nat) (t : TypeId) (ps : List Pc) : Prop :=
  ps.length ≤ 15 ∧ ∃ cs, Blk w g t cs ∧ cs.size = 45 ∧ ∀ j, j < ps.length → cs[j * 3]? = some (.int .i64 ((ps[j]?.getD (0, 0, 0)).1 : Int)) ∧ cs[j * 3 + 1]? = some (.int .i64 (ps[j]?.getD (0, 0, 0)).2.1) ∧ cs[j * 3 + 2]? = some (.int .i64 (ps[j]?.getD (0, 0, 0)).2.2)
theorem PcB.below {w w' : World} {g : Nat} {t : TypeId} {ps : List Pc} (h : PcB w g t ps) (hb : Below w.heap.size w w') : PcB w' g t ps := by
  obtain ⟨h1, cs, h2, h3⟩ := h
  exact ⟨h1, cs, h2.below hb h2.lt, h3⟩
theorem PcB.far {w : World} {g : Nat} {t : TypeId} {ps : List Pc} (h : PcB w g t ps) {p : Addr} (hp : g ≠ p.block) (v : Value) : PcB (w.setCell p v) g t ps := by
  obtain ⟨h1, cs, h2, h3⟩ := h
  exact ⟨h1, cs, h2.far hp v, h3⟩
theorem PcB.lt {w : World} {g : Nat} {t : TypeId} {ps : List Pc} (h : PcB w g t ps) : g < w.heap.size := by
  obtain ⟨_, cs, h2, _⟩ := h
  exact h2.lt
theorem PcB.push {w : World} {g : Nat} {t : TypeId} {ps : List Pc} (h : PcB w g t ps) (hl : ps.length < 15) (u : Nat) (q p : Int) :
    PcB (((w.setCell ⟨g, ps.length * 3, none⟩ (.int .i64 (u : Int))).setCell ⟨g, ps.length * 3 + 1, none⟩ (.int .i64 q)).setCell ⟨g, ps.length * 3 + 2, none⟩ (.int .i64 p)) g t (ps ++ [(u, q, p)]) := by
  obtain ⟨h1, cs, h2, h3, h4⟩ := h
  refine ⟨by simp; omega, _, ((h2.set _ _).set _ _).set _ _, by simp [h3], fun j hj => ?_⟩
  by_cases hjl : j = ps.length
  · subst hjl
    simp [Array.getElem?_setIfInBounds, h3]
    omega
  · have hj' : j < ps.length := by simp at hj; omega
    obtain ⟨e1, e2, e3⟩ := h4 j hj'
    have eg : (ps ++ [(u, q, p)])[j]?.getD (0, 0, 0) = ps[j]?.getD (0, 0, 0) := by rw [List.getElem?_append_left hj']
    rw [eg, ← e1, ← e2, ← e3]
    refine ⟨?_, ?_, ?_⟩
    · rw [Array.getElem?_setIfInBounds_ne (by omega), Array.getElem?_setIfInBounds_ne (by omega), Array.getElem?_setIfInBounds_ne (by omega)]
    · rw [Array.getElem?_setIfInBounds_ne (by omega), Array.getElem?_setIfInBounds_ne (by omega), Array.getElem?_setIfInBounds_ne (by omega)]
    · rw [Array.getElem?_setIfInBounds_ne (by omega), Array.getElem?_setIfInBounds_ne (by omega), Array.getElem?_setIfInBounds_ne (by omega)]
/-- The cells of the place behind the last piece are there. -/
theorem PcB.room {w : World} {g : Nat} {t : TypeId} {ps : List Pc} (h : PcB w g t ps) (hl : ps.length < 15) : ∃ a b c, w.cell? ⟨g, ps.length * 3, none⟩ = some a ∧ w.cell? ⟨g, ps.length * 3 + 1, none⟩ = some b ∧ w.cell? ⟨g, ps.length * 3 + 2, none⟩ = some c ∧
    w.frozen? ⟨g, ps.length * 3, none⟩ = false ∧ w.frozen? ⟨g, ps.length * 3 + 1, none⟩ = false ∧ w.frozen? ⟨g, ps.length * 3 + 2, none⟩ = false := by
  obtain ⟨h1, cs, h2, h3, h4⟩ := h
  exact ⟨cs[ps.length * 3], cs[ps.length * 3 + 1], cs[ps.length * 3 + 2], by rw [h2.cell]; simp, by rw [h2.cell]; simp, by rw [h2.cell]; simp, h2.frozen _, h2.frozen _, h2.frozen _⟩
theorem PcB.holds {w : World} {g : Nat} {t : TypeId} {ps : List Pc} (h : PcB w g t ps) : Go.Sort.HoldsK encP 3 w g 0 ps.toArray := by
  obtain ⟨h1, cs, h2, h3, h4⟩ := h
  intro j hj
  have hj' : j < ps.length * 3 := by simpa using hj
  rw [Go.Sort.get_flatK _ _ _ _ (by simpa using hj')]
  have hd : j / 3 < ps.length := by omega
  obtain ⟨e1, e2, e3⟩ := h4 (j / 3) hd
  have eg : ps.toArray[j / 3]! = ps[j / 3]?.getD (0, 0, 0) := by simp [hd]
  rw [eg, Nat.zero_add, h2.cell]
  refine ⟨?_, h2.frozen _⟩
  have h3' : j % 3 < 3 := Nat.mod_lt _ (by omega)
  have ej : j = j / 3 * 3 + j % 3 := by omega
  generalize j % 3 = m at *
  generalize j / 3 = q at *
  subst ej
  match m, h3' with
  | 0, _ => simpa [encP] using e1
  | 1, _ => simpa [encP] using e2
  | 2, _ => simpa [encP] using e3

def pus (us : List Un) (bs : List Bool) : List PU := (us.zip bs).map fun z => ⟨z.2, z.1.mn, z.1.st⟩


theorem IRow.start (w : World) (n : Nat) : IRow (w.alloc (.cells (Array.replicate n (.int .i64 0)) 2)) w.heap.size (List.replicate n 0) := by
  unfold IRow
  have := Blk.new w 2 (Array.replicate n (Value.int .i64 0))
  simpa using this
theorem PcB.start (w : World) (t : TypeId) (cs : Array Value) (h : cs.size = 45) : PcB (w.alloc (.cells cs t)) w.heap.size t [] := ⟨by simp, cs, Blk.new w t cs, h, fun j hj => absurd hj (by simp)⟩

theorem pus_len {us : List Un} {bs : List Bool} {n : Nat} (h : us.length = n) (h' : bs.length = n) : (pus us bs).length = n := by unfold pus; simp [h, h']
theorem pus_get {us : List Un} {bs : List Bool} {k : Nat} (h : k < us.length) (h' : k < bs.length) : (pus us bs)[k]?.getD ⟨false, 0, []⟩ = ⟨bs[k]?.getD false, (us[k]?.getD U0).mn, (us[k]?.getD U0).st⟩ := by
  unfold pus
  have hk : k < (us.zip bs).length := by rw [List.length_zip]; omega
  rw [List.getElem?_map, List.getElem?_eq_getElem hk, List.getElem_zip, List.getElem?_eq_getElem h, List.getElem?_eq_getElem h']
  rfl
def PU0 : PU := ⟨false, 0, []⟩
/-- The outputs before unit k is looked at. -/
def rowAt (zs : List PU) (k : Nat) : List Int := (zs.take k).map PU.dn ++ List.replicate (zs.length - k) 0
theorem rowAt_len (zs : List PU) (k : Nat) (hk : k ≤ zs.length) : (rowAt zs k).length = zs.length := by unfold rowAt; simp; omega
theorem take_snocP {zs : List PU} {k : Nat} (hk : k < zs.length) : zs.take (k + 1) = zs.take k ++ [zs[k]?.getD PU0] := by
  rw [List.take_succ_eq_append_getElem hk, List.getElem?_eq_getElem hk]; rfl
theorem rowAt_on {zs : List PU} {k : Nat} (hk : k < zs.length) : rowAt zs (k + 1) = (rowAt zs k).set k (zs[k]?.getD PU0).dn := by
  unfold rowAt
  rw [take_snocP hk, List.map_append, List.map_singleton, List.set_append_right _ _ (by simp; omega)]
  obtain ⟨m, hm⟩ : ∃ m, zs.length - k = m + 1 := ⟨zs.length - k - 1, by omega⟩
  have e : zs.length - (k + 1) = m := by omega
  have e2 : k - ((zs.take k).map PU.dn).length = 0 := by simp; omega
  rw [hm, e, e2, List.replicate_succ, List.set_cons_zero]
  simp
theorem rowAt_off {zs : List PU} {k : Nat} (hk : k < zs.length) (h : (zs[k]?.getD PU0).dn = 0) : rowAt zs (k + 1) = rowAt zs k := by
  unfold rowAt
  rw [take_snocP hk, List.map_append, List.map_singleton, h]
  obtain ⟨m, hm⟩ : ∃ m, zs.length - k = m + 1 := ⟨zs.length - k - 1, by omega⟩
  have e : zs.length - (k + 1) = m := by omega
  rw [hm, e, List.replicate_succ]
  simp
theorem rowAt_zero (zs : List PU) : rowAt zs 0 = List.replicate zs.length 0 := by simp [rowAt]
theorem rowAt_all (zs : List PU) : rowAt zs zs.length = zs.map PU.dn := by simp [rowAt]

theorem pieces_app : ∀ (a b : List PU) (k : Nat), En.pieces k (a ++ b) = En.pieces k a ++ En.pieces (k + a.length) b
  | [], b, k => by simp [En.pieces]
  | z :: a, b, k => by
    rw [List.cons_append, En.pieces, En.pieces, pieces_app a b (k + 1), List.append_assoc, List.length_cons, show k + 1 + a.length = k + (a.length + 1) by omega]
/-- The pieces of the first k units. -/
def psAt (zs : List PU) (k : Nat) : List Pc := En.pieces 0 (zs.take k)
theorem psAt_on {zs : List PU} {k : Nat} (hk : k < zs.length) (h : (zs[k]?.getD PU0).on = true) : psAt zs (k + 1) = psAt zs k ++ (En.left (zs[k]?.getD PU0).mn (zs[k]?.getD PU0).st).map fun s => (k, s.1, s.2) := by
  unfold psAt
  rw [take_snocP hk, pieces_app]
  have e : (zs.take k).length = k := by simp; omega
  rw [e, Nat.zero_add, En.pieces, En.pieces, if_pos h]
  simp
theorem psAt_off {zs : List PU} {k : Nat} (hk : k < zs.length) (h : (zs[k]?.getD PU0).on = false) : psAt zs (k + 1) = psAt zs k := by
  unfold psAt
  rw [take_snocP hk, pieces_app]
  have e : (zs.take k).length = k := by simp; omega
  rw [e, Nat.zero_add, En.pieces, En.pieces, if_neg (by rw [h]; simp)]
  simp
theorem left_len : ∀ (st : List (Int × Int)) (t : Int), (En.left t st).length = st.length
  | [], _ => rfl
  | s :: r, t => by rw [En.left, List.length_cons, List.length_cons, left_len r]
theorem psAt_len {zs : List PU} (h : ∀ z ∈ zs, z.st.length ≤ 3) : ∀ k, k ≤ zs.length → (psAt zs k).length ≤ 3 * k
  | 0, _ => by simp [psAt, En.pieces]
  | k + 1, hk => by
    have ih := psAt_len h k (by omega)
    cases hon : (zs[k]?.getD PU0).on
    · rw [psAt_off hk hon]; omega
    · rw [psAt_on hk hon, List.length_append, List.length_map, left_len]
      have hm : (zs[k]?.getD PU0) ∈ zs := by rw [List.getElem?_eq_getElem hk]; exact List.getElem_mem _
      have := h _ hm
      omega
theorem left_get : ∀ (st : List (Int × Int)) (t : Int) (j : Nat), j < st.length → (En.left t st)[j]? = some ((st[j]?.getD (0, 0)).1 - min (restI st t j) (st[j]?.getD (0, 0)).1, (st[j]?.getD (0, 0)).2)
  | [], _, _, h => absurd h (by simp)
  | s :: r, t, 0, _ => by simp [En.left, restI]
  | s :: r, t, j + 1, h => by
    rw [En.left, List.getElem?_cons_succ, left_get r _ j (by simpa using h), restI_cons]
    simp
theorem left_take {st : List (Int × Int)} {t : Int} {j : Nat} (h : j < st.length) : (En.left t st).take (j + 1) = (En.left t st).take j ++ [((st[j]?.getD (0, 0)).1 - min (restI st t j) (st[j]?.getD (0, 0)).1, (st[j]?.getD (0, 0)).2)] := by
  have hl : j < (En.left t st).length := by rw [left_len]; exact h
  have e := left_get st t j h
  rw [List.getElem?_eq_getElem hl] at e
  injection e with e
  rw [List.take_succ_eq_append_getElem hl, e]

theorem qs_eq : ∀ (l : List (Int × Int)), En.qs l = qsum l
  | [] => rfl
  | s :: r => by rw [En.qs, qs_eq r]; unfold qsum; simp
theorem chkFrom_up : ∀ {l : List (Int × Int)} {v : Int}, chkFrom true (some v) l = 0 → (∀ t ∈ l, v < t.2) ∧ En.Up l
  | [], _, _ => ⟨(fun t ht => by cases ht), trivial⟩
  | (q, p) :: r, v, h => by
    by_cases hb : Bad q p
    · rw [chkFrom_bad hb] at h; cases h
    · rw [chkFrom_next hb] at h
      cases hf : flw true v p
      · rw [hf] at h; simp at h
      · rw [hf] at h
        simp only [if_true] at h
        have hvp : v < p := by unfold flw at hf; simpa using hf
        obtain ⟨i1, i2⟩ := chkFrom_up h
        unfold Bad at hb
        refine ⟨fun t ht => ?_, by show 0 ≤ q; omega, i1, i2⟩
        rcases List.mem_cons.1 ht with rfl | ht
        · exact hvp
        · have := i1 t ht; omega
theorem chk_up {l : List (Int × Int)} (h : chk true l = 0) : En.Up l := by
  obtain ⟨_, _, hc, hb⟩ := chk_ok h
  match l, hc, hb with
  | [], _, _ => trivial
  | (q, p) :: r, hc, hb =>
    have hq := hb (q, p) (List.mem_cons_self ..)
    rw [chkFrom_first hq] at hc
    obtain ⟨i1, i2⟩ := chkFrom_up hc
    unfold Bad at hq
    exact ⟨by show 0 ≤ q; omega, i1, i2⟩
theorem pus_ok : ∀ {zs : List (Un × Bool)}, (∀ z ∈ zs, uchk z.1 = 0) → En.AllOk (zs.map fun z => ⟨z.2, z.1.mn, z.1.st⟩) ∧ En.sumR ((zs.map fun z => (⟨z.2, z.1.mn, z.1.st⟩ : PU)).map PU.dn) = rmin zs ∧ En.sumR ((zs.map fun z => (⟨z.2, z.1.mn, z.1.st⟩ : PU)).map PU.up) = rmax zs
  | [], _ => ⟨trivial, rfl, rfl⟩
  | z :: zs, h => by
    obtain ⟨i1, i2, i3⟩ := pus_ok (zs := zs) fun y hy => h y (List.mem_cons_of_mem _ hy)
    obtain ⟨u1, u2, u3, u4, u5, u6⟩ := uchk_ok (h z (List.mem_cons_self ..))
    refine ⟨⟨⟨chk_up u1, u2, by show z.1.mn ≤ En.qs z.1.st; rw [qs_eq]; exact u3⟩, i1⟩, ?_, ?_⟩
    · have e1 : rmin (z :: zs) = (if z.2 then z.1.mn else 0) + rmin zs := by unfold rmin; simp
      rw [List.map_cons, List.map_cons, En.sumR, i2, e1]
      rfl
    · have e2 : rmax (z :: zs) = (if z.2 then umax z.1 else 0) + rmax zs := by unfold rmax; simp
      rw [List.map_cons, List.map_cons, En.sumR, i3, e2, u6, ← qs_eq]
      rfl

/-- The pieces ps lie in block g. -/
def PcH (w : World) (g : Nat) (ps : List Pc) : Prop :=
  g < w.heap.size ∧ ∀ j, j < ps.length → w.cell? ⟨g, j * 3, none⟩ = some (.int .i64 ((ps[j]?.getD (0, 0, 0)).1 : Int)) ∧ w.cell? ⟨g, j * 3 + 1, none⟩ = some (.int .i64 (ps[j]?.getD (0, 0, 0)).2.1) ∧ w.cell? ⟨g, j * 3 + 2, none⟩ = some (.int .i64 (ps[j]?.getD (0, 0, 0)).2.2)
theorem PcH.of {w : World} {g : Nat} {ps : List Pc} (hg : g < w.heap.size) (h : Go.Sort.HoldsK encP 3 w g 0 ps.toArray) : PcH w g ps := by
  refine ⟨hg, fun j hj => ?_⟩
  have eg : ps.toArray[j]! = ps[j]?.getD (0, 0, 0) := by simp [hj]
  have c0 := (h.cell (i := j) (c := 0) (by simpa using hj) (by omega)).1
  have c1 := (h.cell (i := j) (c := 1) (by simpa using hj) (by omega)).1
  have c2 := (h.cell (i := j) (c := 2) (by simpa using hj) (by omega)).1
  rw [eg, Nat.zero_add] at c0 c1 c2
  exact ⟨c0, c1, c2⟩
theorem PcH.alloc {w : World} {g : Nat} {ps : List Pc} (h : PcH w g ps) (o : Obj) : PcH (w.alloc o) g ps := by
  refine ⟨by rw [World.size_alloc]; exact Nat.lt_succ_of_lt h.1, fun j hj => ?_⟩
  rw [World.cell?_alloc_past _ _ _ h.1, World.cell?_alloc_past _ _ _ h.1, World.cell?_alloc_past _ _ _ h.1]
  exact h.2 j hj
theorem PcH.far {w : World} {g : Nat} {ps : List Pc} (h : PcH w g ps) {p : Addr} (hp : g ≠ p.block) (v : Value) : PcH (w.setCell p v) g ps := by
  refine ⟨by simpa [World.setCell] using h.1, fun j hj => ?_⟩
  have hc : ∀ i, (w.setCell p v).cell? ⟨g, i, none⟩ = w.cell? ⟨g, i, none⟩ := fun i => World.cell?_of_block (w := w) (Below.heap_setCell w p v g hp)
  rw [hc, hc, hc]
  exact h.2 j hj
theorem grown_below {B g : Nat} {w W w' : World} (h : Below B w W) (hg : W.grownBy w' (some g)) (hB : B ≤ g) (hs : B ≤ W.heap.size) : Below B w w' :=
  ⟨hg.os.trans h.os, hg.tape.trans h.tape, hg.output.trans h.output, Nat.le_trans h.size hg.size, fun k hk => (hg.block k (by omega) (fun e => by injection e with e; omega)).trans (h.block k hk)⟩
theorem grown_blk {g g' : Nat} {t : TypeId} {cs : Array Value} {W w' : World} (hg : W.grownBy w' (some g)) (h : Blk W g' t cs) (hne : g' ≠ g) : Blk w' g' t cs :=
  (hg.block g' h.lt (fun e => hne (by injection e))).trans h

end Go.Proofs.YtdoeejcmaeefcaaGreat

namespace Go.Proofs.YtdoeejcmaeefcaaGreat
set_option linter.unusedVariables false
set_option linter.unusedSimpArgs false
open Go.RowKit
open Wd
open En (Pc PU)

/-- The state before unit k, and within unit k before its step j. -/
def AlR (w : World) (g : Nat) (zs : List PU) (k : Nat) (wr : World) : Prop :=
  Below w.heap.size w wr ∧ IRow wr g (rowAt zs k) ∧ PcB wr (g + 1) 116 (psAt zs k)
def AlS (w : World) (g : Nat) (zs : List PU) (k : Nat) (mn : Int) (st : List (Int × Int)) (j : Nat) (wr : World) : Prop :=
  Below w.heap.size w wr ∧ IRow wr g (rowAt zs (k + 1)) ∧ PcB wr (g + 1) 116 (psAt zs k ++ ((En.left mn st).take j).map fun s => (k, s.1, s.2))
/-- The state of the last loop before piece j. -/
def FlR (w : World) (g n : Nat) (ps : List Pc) (fin : List Int) (j : Nat) (r : Int) (xs : List Int) (wr : World) : Prop :=
  Below w.heap.size w wr ∧ IRow wr g xs ∧ PcH wr (g + 1) ps ∧ xs.length = n ∧ En.fill (ps.drop j) r xs = fin ∧ ∀ i, i < n → 0 ≤ xs[i]?.getD 0 ∧ xs[i]?.getD 0 ≤ 15000000 * (j + 1)
theorem drop_consP {l : List Pc} {k : Nat} (hk : k < l.length) : l.drop k = (l[k]?.getD (0, 0, 0)) :: l.drop (k + 1) := by
  rw [List.drop_eq_getElem_cons hk, List.getElem?_eq_getElem hk]; rfl
theorem uchk_st {u : Un} (h : uchk u = 0) : u.st.length ≤ 3 ∧ ∀ s ∈ u.st, ¬ Bad s.1 s.2 := by
  obtain ⟨h1, _⟩ := uchk_ok h
  obtain ⟨_, h2, _, h3⟩ := chk_ok h1
  exact ⟨h2, h3⟩

set_option maxRecDepth 100000 in
set_option maxHeartbeats 8000000 in
theorem ealloc_ok (A B : Option Addr) (n c d : Nat) (us : List Un) (bs : List Bool) (f : Int) (w : World) (h : UsAt w A n us) (h' : BsAt w B n bs) (hm : n ≤ 1000000000000) (he : echk us n = 0) (h0 : 0 ≤ f) (h1 : rmin (us.zip bs) ≤ f) (h2 : f ≤ rmax (us.zip bs)) :
    Calls Tryz.prog 65 #[.slice A n c, .slice B n d, .int .i64 f] w fun e w' => ∃ g xs, e = .returned (.tuple #[.slice (some ⟨g, 0, none⟩) n n, .int .i64 0]) ∧ IRow w' g xs ∧ xs.length = n ∧ En.Opt (pus us bs) f xs ∧ w.heap.size ≤ g ∧ Below w.heap.size w w' := by
  have T := erange_ok A B n c n d us bs w h h' hm hm he
  obtain ⟨hn5, hmn, hok⟩ := echk_ok he
  have HT := Lib.hid T
  have hbl := h'.1
  have hul := h.1
  have hzl := pus_len (us := us) (bs := bs) hul hbl
  have hz3 : ∀ z ∈ pus us bs, z.st.length ≤ 3 := by
    intro z hz
    unfold pus at hz
    obtain ⟨y, hy, rfl⟩ := List.mem_map.1 hz
    exact (uchk_st (hok y.1 (List.of_mem_zip hy).1)).1
  have hokz : ∀ z ∈ us.zip bs, uchk z.1 = 0 := fun z hz => hok z.1 (List.of_mem_zip hz).1
  obtain ⟨hao, hsl, hsu⟩ := pus_ok hokz
  have hrb := range_bd (us.zip bs) hokz
  have hzz : (us.zip bs).length ≤ 5 := by rw [List.length_zip]; omega
  have q1 : 0 ≤ rmin (us.zip bs) := by omega
  have q2 : rmax (us.zip bs) ≤ 15000000 := by omega
  have hbnd : ∀ z ∈ us.zip bs, (⟨z.2, z.1.mn, z.1.st⟩ : PU).dn ≤ 3000000 ∧ 0 ≤ (⟨z.2, z.1.mn, z.1.st⟩ : PU).dn := by
    intro z hz
    obtain ⟨_, u2, u3, u4, _, _⟩ := uchk_ok (hokz z hz)
    unfold PU.dn
    cases z.2
    · simp
    · simp only [if_true]; omega
  have hdnb : ∀ i, i < n → 0 ≤ ((pus us bs).map PU.dn)[i]?.getD 0 ∧ ((pus us bs).map PU.dn)[i]?.getD 0 ≤ 15000000 * ((0 : Nat) + 1) := by
    intro i hi
    unfold pus
    have hi' : i < (us.zip bs).length := by rw [List.length_zip]; omega
    have := hbnd _ (List.getElem_mem hi')
    rw [List.getElem?_map, List.getElem?_map, List.getElem?_eq_getElem hi']
    simp only [Option.map_some, Option.getD_some]
    omega
  have HAO := Lib.hid hao
  have HSL0 := Lib.hid hsl
  have HSU0 := Lib.hid hsu
  have HDB := Lib.hid hdnb
  clear hao hsl hsu hrb hzz hbnd hdnb hokz
  have HZ3 := Lib.hid hz3
  have HZL := Lib.hid hzl
  have HUL := Lib.hid hul
  have HBL := Lib.hid hbl
  clear hz3 hzl hul hbl
  have HMN := Lib.hid hmn
  have HOK := Lib.hid hok
  have HU := Lib.hid h
  have HB := Lib.hid h'
  have hn : n ≤ 5 := by omega
  clear T hmn hok h h' he hn5
  have d1 : decide (f < 0) = false := by simpa using h0
  have d2 : decide (f < rmin (us.zip bs)) = false := by simpa using h1
  have d3 : decide (rmax (us.zip bs) < f) = false := by simpa using h2
  have hmk := fun w => run_make_ints n (by omega) w
  go_enter Tryz.func65, Tryz.ntmps65
  go_wp2_with fail
  refine HT.out.mono ?_
  rintro e w1 ⟨rfl, hb1⟩
  have HB1 := Lib.hid hb1
  clear hb1 HT
  go_wp2_with fail
  have hst : AlR w w1.heap.size (pus us bs) 0 ((w1.alloc (.cells (Array.replicate n (.int .i64 0)) 2)).alloc (.cells #[.int .i64 0, .int .i64 0, .int .i64 0, .int .i64 0, .int .i64 0, .int .i64 0, .int .i64 0, .int .i64 0, .int .i64 0, .int .i64 0, .int .i64 0, .int .i64 0, .int .i64 0, .int .i64 0, .int .i64 0, .int .i64 0, .int .i64 0, .int .i64 0, .int .i64 0, .int .i64 0, .int .i64 0, .int .i64 0, .int .i64 0, .int .i64 0, .int .i64 0, .int .i64 0, .int .i64 0, .int .i64 0, .int .i64 0, .int .i64 0, .int .i64 0, .int .i64 0, .int .i64 0, .int .i64 0, .int .i64 0, .int .i64 0, .int .i64 0, .int .i64 0, .int .i64 0, .int .i64 0, .int .i64 0, .int .i64 0, .int .i64 0, .int .i64 0, .int .i64 0] 116)) := by
    refine ⟨(HB1.out.alloc HB1.out.size _).alloc (by rw [World.size_alloc]; exact Nat.le_succ_of_le HB1.out.size) _, ?_, ?_⟩
    · rw [rowAt_zero, HZL.out]; exact (IRow.start w1 n).alloc _
    · have := PcB.start (w1.alloc (.cells (Array.replicate n (.int .i64 0)) 2)) 116 #[.int .i64 0, .int .i64 0, .int .i64 0, .int .i64 0, .int .i64 0, .int .i64 0, .int .i64 0, .int .i64 0, .int .i64 0, .int .i64 0, .int .i64 0, .int .i64 0, .int .i64 0, .int .i64 0, .int .i64 0, .int .i64 0, .int .i64 0, .int .i64 0, .int .i64 0, .int .i64 0, .int .i64 0, .int .i64 0, .int .i64 0, .int .i64 0, .int .i64 0, .int .i64 0, .int .i64 0, .int .i64 0, .int .i64 0, .int .i64 0, .int .i64 0, .int .i64 0, .int .i64 0, .int .i64 0, .int .i64 0, .int .i64 0, .int .i64 0, .int .i64 0, .int .i64 0, .int .i64 0, .int .i64 0, .int .i64 0, .int .i64 0, .int .i64 0, .int .i64 0] rfl
      rw [World.size_alloc] at this
      exact this
  have hg0 : w.heap.size ≤ w1.heap.size := HB1.out.size
  generalize (w1.alloc (.cells (Array.replicate n (.int .i64 0)) 2)).alloc (.cells #[.int .i64 0, .int .i64 0, .int .i64 0, .int .i64 0, .int .i64 0, .int .i64 0, .int .i64 0, .int .i64 0, .int .i64 0, .int .i64 0, .int .i64 0, .int .i64 0, .int .i64 0, .int .i64 0, .int .i64 0, .int .i64 0, .int .i64 0, .int .i64 0, .int .i64 0, .int .i64 0, .int .i64 0, .int .i64 0, .int .i64 0, .int .i64 0, .int .i64 0, .int .i64 0, .int .i64 0, .int .i64 0, .int .i64 0, .int .i64 0, .int .i64 0, .int .i64 0, .int .i64 0, .int .i64 0, .int .i64 0, .int .i64 0, .int .i64 0, .int .i64 0, .int .i64 0, .int .i64 0, .int .i64 0, .int .i64 0, .int .i64 0, .int .i64 0, .int .i64 0] 116) = W0 at *
  generalize w1.heap.size = g at *
  have HST0 := Lib.hid hst
  clear hst hmk HB1 d1 d2 d3
  have HAO2 : Hid (En.AllOk (pus us bs)) := HAO
  have HSL2 : Hid (En.sumR ((pus us bs).map PU.dn) = rmin (us.zip bs)) := HSL0
  have HSU2 : Hid (En.sumR ((pus us bs).map PU.up) = rmax (us.zip bs)) := HSU0
  clear HAO HSL0 HSU0
  generalize hzs : pus us bs = zs at *
  have HZS := Lib.hid hzs
  clear hzs
  go_loopw [13, 50] (fun t13 t wr => ∃ k m : Nat, k ≤ n ∧ m ≤ 3 * k ∧ t = .int .i64 k ∧ t13 = .int .i64 m ∧ Hid (m = (psAt zs k).length) ∧ Hid (AlR w g zs k wr)) (fun _ t _ => n - (intOf t).toNat)
  case atStart => exact ⟨0, 0, Nat.zero_le _, Nat.zero_le _, rfl, rfl, rfl, HST0.out⟩
  case round =>
    clear HST0
    obtain ⟨k, m, hk, hmk, rfl, rfl, hML, hR⟩ := hrel
    by_cases hlt : k < n
    · obtain ⟨hB, hRow, hPc⟩ := hR.out
      obtain ⟨b, o, rfl, hb, hcell⟩ := HU.out.2 (by omega)
      obtain ⟨b', o', rfl, hb', hcell'⟩ := HB.out.2 (by omega)
      have hlen : k < us.length := by have := HMN.out; omega
      have hlenz : k < zs.length := by have := HZL.out; omega
      have hu0 := hcell k hlt
      have hon := (hB.cell (p := ⟨b', o' + k, none⟩) hb').trans (hcell' k hlt)
      have hzk := pus_get (us := us) (bs := bs) (k := k) hlen (by have := HBL.out; omega)
      rw [HZS.out] at hzk
      have hmem : (us[k]?.getD U0) ∈ us := by rw [List.getElem?_eq_getElem hlen]; exact List.getElem_mem _
      have huk := HOK.out _ hmem
      obtain ⟨us3, usb⟩ := uchk_st huk
      obtain ⟨-, um0, um1, um2, -, -⟩ := uchk_ok huk
      clear huk hmem
      generalize bs[k]?.getD false = bk at *
      generalize us[k]?.getD U0 = u at *
      obtain ⟨bus, mn, st, up, dn, start, idle, spin, on⟩ := u
      obtain ⟨A', n', c', ⟨h0', h1', h2', h3', h4', h5', h6', h7', h8'⟩, hs, hn'⟩ := hu0
      simp only at h0' h1' h2' h3' h4' h5' h6' h7' h8' hs us3 usb um0 um1 um2 hzk
      replace h0' := (hB.cell (p := ⟨b, o + k * 9, none⟩) hb).trans h0'
      replace h1' := (hB.cell (p := ⟨b, o + k * 9 + 1, none⟩) hb).trans h1'
      replace h2' := (hB.cell (p := ⟨b, o + k * 9 + 2, none⟩) hb).trans h2'
      replace h3' := (hB.cell (p := ⟨b, o + k * 9 + 3, none⟩) hb).trans h3'
      replace h4' := (hB.cell (p := ⟨b, o + k * 9 + 4, none⟩) hb).trans h4'
      replace h5' := (hB.cell (p := ⟨b, o + k * 9 + 5, none⟩) hb).trans h5'
      replace h6' := (hB.cell (p := ⟨b, o + k * 9 + 6, none⟩) hb).trans h6'
      replace h7' := (hB.cell (p := ⟨b, o + k * 9 + 7, none⟩) hb).trans h7'
      replace h8' := (hB.cell (p := ⟨b, o + k * 9 + 8, none⟩) hb).trans h8'
      have hbr : b < wr.heap.size := Nat.lt_of_lt_of_le hb hB.size
      have hbr' : b' < wr.heap.size := Nat.lt_of_lt_of_le hb' hB.size
      have hon9 : (wr.alloc (.cells #[.int .i64 bus, .int .i64 mn, .slice A' n' c', .int .i64 up, .int .i64 dn, .int .i64 start, .int .i64 idle, .int .i64 spin, .int .i64 on] 39)).cell? ⟨b', o' + k, none⟩ = some (.bool bk) := by
        rw [World.cell?_alloc_past _ _ _ hbr']; exact hon
      have hb9 : Below wr.heap.size wr (wr.alloc (.cells #[.int .i64 bus, .int .i64 mn, .slice A' n' c', .int .i64 up, .int .i64 dn, .int .i64 start, .int .i64 idle, .int .i64 spin, .int .i64 on] 39)) := (Below.refl _ _).alloc (Nat.le_refl _) _
      have hBw := hB.trans (hb9.mono hB.size)
      have hRow9 := hRow.below hb9
      have hPc9 := hPc.below hb9
      have HZK := Lib.hid hzk
      clear hzk
      cases bk
      · have hfin : AlR w g zs (k + 1) (wr.alloc (.cells #[.int .i64 bus, .int .i64 mn, .slice A' n' c', .int .i64 up, .int .i64 dn, .int .i64 start, .int .i64 idle, .int .i64 spin, .int .i64 on] 39)) := by
          refine ⟨hBw, ?_, ?_⟩
          · rw [rowAt_off hlenz (by unfold PU0; rw [HZK.out]; rfl)]; exact hRow9
          · rw [psAt_off hlenz (by unfold PU0; rw [HZK.out])]; exact hPc9
        have hml : m = (psAt zs (k + 1)).length := by rw [psAt_off hlenz (by unfold PU0; rw [HZK.out])]; exact hML.out
        have HF := Lib.hid hfin
        have HML := Lib.hid hml
        clear hfin hml hBw hRow9 hPc9 hb9 hcell hcell' hR hML hRow hPc hB usb hs
        go_wp2
        go_roundw
        case rel => exact ⟨k + 1, m, by omega, by omega, by go_num, rfl, HML.out, HF.out⟩
        case measure => simp [intOf]; omega
      · have hzl2 := HZL.out
        have hrl : (rowAt zs k).length = zs.length := rowAt_len zs k (by omega)
        have hUb := Blk.new wr 39 #[.int .i64 bus, .int .i64 mn, .slice A' n' c', .int .i64 up, .int .i64 dn, .int .i64 start, .int .i64 idle, .int .i64 spin, .int .i64 on]
        have hrc := hRow9.cell (i := k) (by omega)
        have hrf := hRow9.frozen k
        have hgl : g + 1 < wr.heap.size := hPc.lt
        have hg1 : g ≠ wr.heap.size := by omega
        have hRow3 := hRow9.set k mn
        have hon2 : (zs[k]?.getD PU0).on = true := by unfold PU0; rw [HZK.out]
        have hdn : (zs[k]?.getD PU0).dn = mn := by unfold PU0; rw [HZK.out]; rfl
        rw [← hdn, ← rowAt_on hlenz, hdn] at hRow3
        have hPc3 := hPc9.far (p := ⟨g, k, none⟩) (by simp) (.int .i64 mn)
        have hUb3 := hUb.far (p := ⟨g, k, none⟩) (by simp; omega) (.int .i64 mn)
        have hB3 := hBw.setCell (p := ⟨g, k, none⟩) hg0 (.int .i64 mn)
        have hki : (0 : Int) ≤ (k : Int) ∧ (k : Int) < (n : Int) := by omega
        obtain ⟨hki1, hki2⟩ := hki
        have hst3 : AlS w g zs k mn st 0 ((wr.alloc (.cells #[.int .i64 bus, .int .i64 mn, .slice A' n' c', .int .i64 up, .int .i64 dn, .int .i64 start, .int .i64 idle, .int .i64 spin, .int .i64 on] 39)).setCell ⟨g, k, none⟩ (.int .i64 mn)) := ⟨hB3, hRow3, by simpa using hPc3⟩
        obtain ⟨e0, e1, e2, -⟩ := hUb.nine
        obtain ⟨x0, x1, x2, -⟩ := hUb3.nine
        have HST3 := Lib.hid hst3
        have HSX := Lib.hid hs
        have HUSB := Lib.hid usb
        have hsl := hs.1
        have HSL := Lib.hid hsl
        have hnn : n' ≤ 3 := by omega
        have HON2 := Lib.hid hon2
        have hzk2 : zs[k]?.getD PU0 = ⟨true, mn, st⟩ := HZK.out
        have HZK2 := Lib.hid hzk2
        clear hzk2 hst3 hRow3 hPc3 hB3 hUb3 hUb hdn hon2 hrl hzl2 hBw hRow9 hPc9 hb9 hcell hcell' hR hRow hPc hB usb hs hsl
        go_wp2_with fail
        generalize (wr.alloc (.cells #[.int .i64 bus, .int .i64 mn, .slice A' n' c', .int .i64 up, .int .i64 dn, .int .i64 start, .int .i64 idle, .int .i64 spin, .int .i64 on] 39)).setCell ⟨g, k, none⟩ (.int .i64 mn) = W3 at *
        clear e0 e1 e2 x0 x1 x2 h0' h1' h2' h3' h4' h5' h6' h7' h8' hrc hrf
        obtain ⟨wo, rfl⟩ : ∃ wo : World, wo = wr := ⟨_, rfl⟩
        go_loopw [13, 16, 70] (fun t13 t16 t wq => ∃ j m : Nat, j ≤ n' ∧ m ≤ 3 * k + j ∧ t = .int .i64 j ∧ t13 = .int .i64 m ∧ t16 = .int .i64 (restI st mn j) ∧ Hid (m = (psAt zs k ++ ((En.left mn st).take j).map fun s => (k, s.1, s.2)).length) ∧ Hid (AlS w g zs k mn st j wq)) (fun _ _ t _ => n' - (intOf t).toNat)
        case atStart => exact ⟨0, m, Nat.zero_le _, by omega, rfl, rfl, rfl, by show m = _; simpa using hML.out, HST3.out⟩
        case round =>
          clear HST3
          obtain ⟨j, m', hj, hm', rfl, rfl, rfl, hML2, hR2⟩ := hrel
          by_cases hjl : j < n'
          · obtain ⟨hB4, hRow4, hPc4⟩ := hR2.out
            obtain ⟨b2, o2, rfl, hb2, hcell2⟩ := HSX.out.2.2 (by omega)
            obtain ⟨ck, ck'⟩ := hcell2 j hjl
            have hck := (hB4.cell (p := ⟨b2, o2 + j * 2, none⟩) hb2).trans ck
            have hck' := (hB4.cell (p := ⟨b2, o2 + j * 2 + 1, none⟩) hb2).trans ck'
            have hsl2 := HSL.out
            have hmem2 : (st[j]?.getD (0, 0)) ∈ st := by rw [List.getElem?_eq_getElem (by omega)]; exact List.getElem_mem _
            have hbad := HUSB.out _ hmem2
            unfold Bad at hbad
            have hrb := restI_bd (l := st) (z := mn) HUSB.out um0 (by omega) j (by omega)
            have hlt2 := left_take (st := st) (t := mn) (j := j) (by omega)
            have hri : restI st mn (j + 1) = restI st mn j - min (restI st mn j) (st[j]?.getD (0, 0)).1 := rfl
            have hm15 : (psAt zs k ++ ((En.left mn st).take j).map fun s => (k, s.1, s.2)).length < 15 := by rw [← hML2.out]; omega
            have hpsn : (psAt zs k ++ ((En.left mn st).take (j + 1)).map fun s => (k, s.1, s.2)) = (psAt zs k ++ ((En.left mn st).take j).map fun s => (k, s.1, s.2)) ++ [(k, (st[j]?.getD (0, 0)).1 - min (restI st mn j) (st[j]?.getD (0, 0)).1, (st[j]?.getD (0, 0)).2)] := by
              rw [hlt2, List.map_append, ← List.append_assoc]; rfl
            generalize hq1 : (st[j]?.getD (0, 0)).1 = q1 at *
            generalize hp1 : (st[j]?.getD (0, 0)).2 = p1 at *
            generalize hur : restI st mn j = ur at *
            have c1 : 0 ≤ min ur q1 := by omega
            have c2 : min ur q1 ≤ ur := by omega
            have c3 : min ur q1 ≤ q1 := by omega
            have c4 : ur ≤ 3000000 := by omega
            have c5 : q1 ≤ 1000000 := by omega
            have hb9 : Below wr.heap.size wr (wr.alloc (.cells #[.int .i64 q1, .int .i64 p1] 83)) := (Below.refl _ _).alloc (Nat.le_refl _) _
            have hPc9 := hPc4.below hb9
            have hRow9 := hRow4.below hb9
            have hgl4 : g + 1 < wr.heap.size := hPc4.lt
            have hgw : g + 1 ≠ wr.heap.size := by omega
            have hPc10 := hPc4.push hm15 k (q1 - min ur q1) p1
            rw [← hpsn] at hPc10
            obtain ⟨aa, bb, cc, r0, r1, r2, r3, r4, r5⟩ := hPc4.room hm15
            obtain ⟨aa', bb', cc', r0', r1', r2', r3', r4', r5'⟩ := hPc9.room hm15
            rw [← hML2.out] at r0 r1 r2 r3 r4 r5 r0' r1' r2' r3' r4' r5' hPc10
            have hB5 := ((hB4.setCell (p := ⟨g + 1, m' * 3, none⟩) (by simp; omega) (.int .i64 (k : Int))).setCell (p := ⟨g + 1, m' * 3 + 1, none⟩) (by simp; omega) (.int .i64 (q1 - min ur q1))).setCell (p := ⟨g + 1, m' * 3 + 2, none⟩) (by simp; omega) (.int .i64 p1)
            have hRow5 := ((Blk.far hRow4 (p := ⟨g + 1, m' * 3, none⟩) (by simp) (.int .i64 (k : Int))).far (p := ⟨g + 1, m' * 3 + 1, none⟩) (by simp) (.int .i64 (q1 - min ur q1))).far (p := ⟨g + 1, m' * 3 + 2, none⟩) (by simp) (.int .i64 p1)
            have hfin : AlS w g zs k mn st (j + 1) ((((wr.setCell ⟨g + 1, m' * 3, none⟩ (.int .i64 (k : Int))).setCell ⟨g + 1, m' * 3 + 1, none⟩ (.int .i64 (q1 - min ur q1))).setCell ⟨g + 1, m' * 3 + 2, none⟩ (.int .i64 p1)).alloc (.cells #[.int .i64 q1, .int .i64 p1] 83)) :=
              ⟨hB5.alloc hB5.size _, IRow.alloc hRow5 _, hPc10.below ((Below.refl _ _).alloc (Nat.le_refl _) _)⟩
            have hml3 : m' + 1 = (psAt zs k ++ ((En.left mn st).take (j + 1)).map fun s => (k, s.1, s.2)).length := by
              rw [hpsn, List.length_append, ← hML2.out]; rfl
            have hmi : (0 : Int) ≤ (m' : Int) ∧ (m' : Int) < 15 := by omega
            obtain ⟨hmi1, hmi2⟩ := hmi
            have hSb := Blk.new wr 83 #[.int .i64 q1, .int .i64 p1]
            have hb2r : b2 < wr.heap.size := Nat.lt_of_lt_of_le hb2 hB4.size
            have HF := Lib.hid hfin
            have HM := Lib.hid hml3
            have HRI := Lib.hid hri
            clear hfin hml3 hri hpsn hlt2 hq1 hp1 hur hPc10 hPc9 hRow9 hPc4 hRow4 hB5 hRow5 hb9 hB4 hR2 hML2 hcell2 ck ck' hsl2 hmem2 hbad hrb hm15 hon hon9 hSb
            go_wp2
            go_roundw
            case rel => exact ⟨j + 1, m' + 1, by omega, by omega, by go_num, by go_num, by rw [HRI.out], HM.out, HF.out⟩
            case measure => simp [intOf]; omega
          · obtain rfl : j = n' := by omega
            have hta : (En.left mn st).take j = En.left mn st := List.take_of_length_le (by rw [left_len, HSL.out]; exact Nat.le_refl _)
            have hpe : psAt zs (k + 1) = psAt zs k ++ ((En.left mn st).take j).map fun s => (k, s.1, s.2) := by
              rw [psAt_on hlenz HON2.out, HZK2.out, hta]
            have hfin : AlR w g zs (k + 1) wr := by
              obtain ⟨hB4, hRow4, hPc4⟩ := hR2.out
              exact ⟨hB4, hRow4, by rw [hpe]; exact hPc4⟩
            have hml3 : m' = (psAt zs (k + 1)).length := by rw [hpe]; exact hML2.out
            have HF := Lib.hid hfin
            have HM := Lib.hid hml3
            clear hfin hml3 hpe hta hR2 hML2 hon hon9
            go_wp2
            go_roundw
            case rel => exact ⟨k + 1, m', by omega, by omega, by go_num, rfl, HM.out, HF.out⟩
            case measure => simp [intOf]; omega
    · obtain rfl : k = n := by omega
      obtain ⟨hB, hRow, hPc⟩ := hR.out
      have htk : zs.take k = zs := List.take_of_length_le (by have := HZL.out; omega)
      have hrow0 : rowAt zs k = zs.map PU.dn := by have := rowAt_all zs; rwa [HZL.out] at this
      have hps0 : psAt zs k = En.pieces 0 zs := by unfold psAt; rw [htk]
      have hmi : (0 : Int) ≤ (m : Int) ∧ (m : Int) ≤ 15 := by omega
      obtain ⟨hmi1, hmi2⟩ := hmi
      have HPS0 := Lib.hid hps0
      have HROW0 := Lib.hid hrow0
      clear htk hrow0 hps0
      have hblk : g + 1 < wr.heap.size := hPc.lt
      have hne1 : g ≠ wr.heap.size := by omega
      have hne2 : wr.heap.size ≠ g + 1 := by omega
      have hb9 : Below wr.heap.size wr (wr.alloc (.cells #[.slice (some ⟨g + 1, 0, none⟩) m 15] 117)) := (Below.refl _ _).alloc (Nat.le_refl _) _
      have hBox := Blk.new wr 117 #[.slice (some ⟨g + 1, 0, none⟩) m 15]
      have hBw := hB.alloc hB.size (.cells #[.slice (some ⟨g + 1, 0, none⟩) m 15] 117)
      have hRow9 := hRow.below hb9
      have hPc9 := hPc.below hb9
      have hT := esort (g + 1) 15 wr.heap.size (psAt zs k) (wr.alloc (.cells #[.slice (some ⟨g + 1, 0, none⟩) m 15] 117)) hPc9.holds (by rw [World.size_alloc]; omega) (by rw [← hML.out]; exact hBox.cell 0) (by rw [World.size_alloc]; omega) hne2 (by rw [← hML.out]; omega)
      rw [← hML.out] at hT
      have HT := Lib.hid hT
      clear hT hR hB hRow hPc hPc9 hb9
      go_wp2_with fail
      refine HT.out.mono ?_
      rintro e w2 ⟨rfl, ps, hperm, hsort, hH, hgrow⟩
      have hsz2 := hgrow.size
      rw [World.size_alloc] at hsz2
      have hB2 : Below w.heap.size w w2 := grown_below hBw hgrow (by omega) (by rw [World.size_alloc]; omega)
      have hRow2 : IRow w2 g (rowAt zs k) := grown_blk hgrow hRow9 (by omega)
      have hBox2 := grown_blk hgrow hBox hne2
      have hPcH : PcH w2 (g + 1) ps := PcH.of (by omega) hH
      have hpl : ps.length = m := by rw [hperm.length_eq]; exact hML.out.symm
      rw [HPS0.out] at hperm
      rw [HROW0.out] at hRow2
      have hopt := En.fill_opt (zs := zs) (f := f) (ps := ps) HAO2.out hperm hsort (by rw [HSL2.out]; exact h1) (by rw [HSU2.out]; exact h2)
      rw [HSL2.out] at hopt
      have hunit : ∀ p ∈ ps, p.1 < k ∧ 0 ≤ p.2.1 := fun p hp => by
        have a1 := (En.pieces_unit zs 0 p (hperm.mem_iff.1 hp)).2
        rw [HZL.out] at a1
        exact ⟨by omega, En.pieces_nonneg zs 0 HAO2.out p (hperm.mem_iff.1 hp)⟩
      have hst : FlR w g k ps (En.fill ps (f - rmin (us.zip bs)) (zs.map PU.dn)) 0 (f - rmin (us.zip bs)) (zs.map PU.dn) w2 :=
        ⟨hB2, hRow2, hPcH, by rw [List.length_map]; exact HZL.out, rfl, HDB.out⟩
      generalize En.fill ps (f - rmin (us.zip bs)) (zs.map PU.dn) = fin at *
      have HFO := Lib.hid hopt
      have HUN := Lib.hid hunit
      have HPL := Lib.hid hpl
      have HST1 := Lib.hid hst
      have hbx := hBox2.cell 0
      have q3 : 0 ≤ f - rmin (us.zip bs) := by omega
      have q4 : f - rmin (us.zip bs) ≤ 15000000 := by omega
      clear hst hpl hunit hopt hPcH hRow2 hB2 hH hperm hsort HT hBw hRow9 hgrow hBox
      go_wp2_with fail
      generalize f - rmin (us.zip bs) = r0 at *
      generalize zs.map PU.dn = xs0 at *
      clear hbx
      go_loopw [21, 106] (fun t21 t wq => ∃ (j : Nat) (r : Int) (xs : List Int), j ≤ m ∧ 0 ≤ r ∧ r ≤ 15000000 ∧ t = .int .i64 j ∧ t21 = .int .i64 r ∧ Hid (FlR w g k ps fin j r xs wq)) (fun _ t _ => m - (intOf t).toNat)
      case atStart => exact ⟨0, r0, xs0, Nat.zero_le _, q3, q4, rfl, rfl, HST1.out⟩
      case round =>
        clear HST1
        obtain ⟨j, r, xs, hj, hr0, hr1, rfl, rfl, hF⟩ := hrel
        by_cases hjl : j < m
        · obtain ⟨hB, hRow, hPc, hxl, hfl, hxb⟩ := hF.out
          have hpl := HPL.out
          obtain ⟨c0, c1, c2⟩ := hPc.2 j (by omega)
          have hmemp : (ps[j]?.getD (0, 0, 0)) ∈ ps := by rw [List.getElem?_eq_getElem (by omega)]; exact List.getElem_mem _
          obtain ⟨pu, pq⟩ := HUN.out _ hmemp
          rw [drop_consP (by omega)] at hfl
          generalize ps[j]?.getD (0, 0, 0) = p at *
          obtain ⟨u, q, pr⟩ := p
          simp only at c0 c1 c2 pu pq hfl
          rw [En.fill] at hfl
          simp only at hfl
          have hxu := hxb u pu
          have hrc := hRow.cell (i := u) (by omega)
          have hrf := hRow.frozen u
          have hset := hRow.set u (xs[u]?.getD 0 + min r q)
          have hgl : g + 1 < wr.heap.size := hPc.1
          have m1 : 0 ≤ min r q := by omega
          have m2 : min r q ≤ r := by omega
          have hxb' : ∀ i, i < k → 0 ≤ (xs.set u (xs[u]?.getD 0 + min r q))[i]?.getD 0 ∧ (xs.set u (xs[u]?.getD 0 + min r q))[i]?.getD 0 ≤ 15000000 * ((j + 1 : Nat) + 1) := by
            intro i hi
            rw [En.set_get _ _ _ _ (by omega)]
            have := hxb i hi
            by_cases hui : u = i
            · subst hui; rw [if_pos rfl]; omega
            · rw [if_neg hui]; omega
          generalize hxv : xs[u]?.getD 0 = xu at *
          have hfin : FlR w g k ps fin (j + 1) (r - min r q) (xs.set u (xu + min r q)) ((wr.setCell ⟨g, u, none⟩ (.int .i64 (xu + min r q))).alloc (.cells #[.int .i64 (u : Int), .int .i64 q, .int .i64 pr] 115)) := by
            have hBs := hB.setCell (p := ⟨g, u, none⟩) hg0 (.int .i64 (xu + min r q))
            exact ⟨hBs.alloc hBs.size _, hset.alloc _, (hPc.far (p := ⟨g, u, none⟩) (by simp) _).alloc _, by rw [List.length_set]; exact hxl, hfl, hxb'⟩
          have HF := Lib.hid hfin
          have x1 : 0 ≤ xu := by omega
          have x2 : xu ≤ 300000000 := by omega
          have hui1 : (0 : Int) ≤ (u : Int) := by omega
          have hui2 : (u : Int) < (k : Int) := by omega
          have hji1 : (0 : Int) ≤ (j : Int) := by omega
          have hji2 : (j : Int) < (m : Int) := by omega
          have hgw : g ≠ wr.heap.size := by omega
          have hgl0 : g < wr.heap.size := by omega
          clear hfin hxb' hxb hset hfl hxv hRow hPc hB hF hmemp hpl hxl hxu
          go_wp2
          go_roundw
          case rel => exact ⟨j + 1, r - min r q, _, by omega, by omega, by omega, by go_num, rfl, HF.out⟩
          case measure => simp [intOf]; omega
        · obtain rfl : j = m := by omega
          obtain ⟨hB, hRow, hPc, hxl, hfl, hxb⟩ := hF.out
          rw [List.drop_of_length_le (by rw [HPL.out]; exact Nat.le_refl _), En.fill] at hfl
          have HFL := Lib.hid hfl
          clear hfl hxb hF
          go_wp2
          go_ret2
          exact ⟨g, xs, rfl, hRow, hxl, by rw [HZS.out, HFL.out]; exact HFO.out, hg0, hB⟩

end Go.Proofs.YtdoeejcmaeefcaaGreat
