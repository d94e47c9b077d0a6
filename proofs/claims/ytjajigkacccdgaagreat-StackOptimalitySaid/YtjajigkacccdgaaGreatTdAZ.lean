/-
Maps by a price: how they are read and written. No statement of the seat is proved here; no conditions beyond those of each theorem.
-/
import Derived.Test.YtjajigkacccdgaaGreatTdAY
import Derived.Maps.RangeRun
import Derived.WideMake
namespace Go.Proofs.YtjajigkacccdgaaGreat
set_option linter.unusedVariables false
set_option linter.unusedSimpArgs false
open Go.RowKit
open Wd
open Go.ChangeMaps (setBlock)

theorem findNow_hit {p : Int} : ∀ {es : List MapEntry} {j i : Nat} {e : MapEntry}, es[j]? = some e → e.key = .int .i64 p → (∀ j', j' < j → ∀ e', es[j']? = some e' → ∃ q, e'.key = .int .i64 q ∧ q ≠ p) → Instr.findNow (.int .i64) (.int .i64 p) es i = some (some (i + j, e.val))
 | [], _, _, _, h, _, _ => by simp at h
 | e0 :: es, 0, i, e, h, hk, _ => by
  simp at h
  subst h
  simp [Instr.findNow, Instr.sameNow, hk]
 | e0 :: es, j + 1, i, e, h, hk, hn => by
  obtain ⟨q, hq, hne⟩ := hn 0 (by omega) e0 rfl
  have : (p == q) = false := by simp; exact fun h => hne h.symm
  rw [Instr.findNow, hq]
  simp only [Instr.sameNow, if_true, this]
  rw [findNow_hit (j := j) (by simpa using h) hk fun j' hj' e' he' => hn (j' + 1) (by omega) e' (by simpa using he')]
  simp
  omega
theorem findNow_miss {p : Int} : ∀ {es : List MapEntry} {i : Nat}, (∀ e ∈ es, ∃ q, e.key = .int .i64 q ∧ q ≠ p) → Instr.findNow (.int .i64) (.int .i64 p) es i = some none
 | [], _, _ => rfl
 | e0 :: es, i, hn => by
  obtain ⟨q, hq, hne⟩ := hn e0 (List.mem_cons_self ..)
  have : (p == q) = false := by simp; exact fun h => hne h.symm
  rw [Instr.findNow, hq]
  simp only [Instr.sameNow, if_true, this]
  exact findNow_miss fun e he => hn e (List.mem_cons_of_mem _ he)

section
variable {P : Program} {w : World} {mt kt et : TypeId} {b : Nat} {es : Array MapEntry} {clock : Nat} {p : Int}
theorem run_look_hit {j : Nat} {v : Value} (hm : P.underlying mt = some (.map kt et)) (hk : P.underlying kt = some (.int .i64)) (hb : w.heap[b]? = some (.map es clock)) (hf : Instr.findNow (.int .i64) (.int .i64 p) es.toList 0 = some (some (j, v))) :
  (Instr.lookup mt (.map (some b)) (.int .i64 p) true).run P w = .ok (.tuple #[v, .bool true]) w := by
 have hc := fun e => MapKept.run_checkKey (P := P) (w := w) (k := .int .i64 p) hk (by simp [MapKept.IsKey]) e 9999
 simp [Instr.lookup, run_underlying hm, MapKept.run_getObj_map hb, hc, MapKept.run_findKey hk hf, Result.andThen]
theorem run_look_miss {z : Value} (hm : P.underlying mt = some (.map kt et)) (hk : P.underlying kt = some (.int .i64)) (hb : w.heap[b]? = some (.map es clock)) (hf : Instr.findNow (.int .i64) (.int .i64 p) es.toList 0 = some none) (hz : (zeroValue et).run P w = .ok z w) :
  (Instr.lookup mt (.map (some b)) (.int .i64 p) true).run P w = .ok (.tuple #[z, .bool false]) w := by
 have hc := fun e => MapKept.run_checkKey (P := P) (w := w) (k := .int .i64 p) hk (by simp [MapKept.IsKey]) e 9999
 simp [Instr.lookup, run_underlying hm, MapKept.run_getObj_map hb, hc, MapKept.run_findKey hk hf, hz, Result.andThen]
theorem run_upd_new {v : Value} (hm : P.underlying mt = some (.map kt et)) (hk : P.underlying kt = some (.int .i64)) (hb : w.heap[b]? = some (.map es clock)) (hf : Instr.findNow (.int .i64) (.int .i64 p) es.toList 0 = some none) :
  (Instr.mapUpdate mt (.map (some b)) (.int .i64 p) v).run P w = .ok () (setBlock w b (.map (es.push ⟨.int .i64 p, v, clock⟩) (clock + 1))) := by
 have hc := MapKept.run_checkKey (P := P) (w := w) (k := .int .i64 p) hk (by simp [MapKept.IsKey]) false 9999
 simp [Instr.mapUpdate, run_underlying hm, MapKept.run_getObj_map hb, hc, MapKept.run_findKey hk hf, MapKept.run_setObj_map _ hb, Result.andThen, setBlock]
theorem run_upd_old {v v0 : Value} {j : Nat} {e : MapEntry} (hm : P.underlying mt = some (.map kt et)) (hk : P.underlying kt = some (.int .i64)) (hb : w.heap[b]? = some (.map es clock)) (hf : Instr.findNow (.int .i64) (.int .i64 p) es.toList 0 = some (some (j, v0))) (he : es[j]? = some e) (hek : e.key = .int .i64 p) :
  (Instr.mapUpdate mt (.map (some b)) (.int .i64 p) v).run P w = .ok () (setBlock w b (.map (es.modify j fun e => { e with key := .int .i64 p, val := v }) clock)) := by
 have hc := MapKept.run_checkKey (P := P) (w := w) (k := .int .i64 p) hk (by simp [MapKept.IsKey]) false 9999
 have hs : Instr.sameBits 10000 (.int .i64 p) (.int .i64 p) = true := by simp [Instr.sameBits]
 simp [Instr.mapUpdate, run_underlying hm, MapKept.run_getObj_map hb, hc, MapKept.run_findKey hk hf, MapKept.run_setObj_map _ hb, Result.andThen, setBlock, Instr.keyThatStays, he, hek, hs]
end

/-- The entry of price p: its level's parts lie in block g. -/
def ent (n : Nat) (T : List St.Tr) (k : Nat) (d : Int × Nat) : MapEntry := ⟨.int .i64 d.1, .agg #[.int .i64 d.1, .int .i64 (St.qty T d.1), .slice (some ⟨d.2, 0, none⟩) n n], k⟩
def ents (n : Nat) (T : List St.Tr) : Nat → List (Int × Nat) → List MapEntry
 | _, [] => []
 | k, d :: D => ent n T k d :: ents n T (k + 1) D
theorem ents_len (n : Nat) (T : List St.Tr) : ∀ (k : Nat) (D : List (Int × Nat)), (ents n T k D).length = D.length
 | _, [] => rfl
 | k, d :: D => by rw [ents, List.length_cons, ents_len n T (k + 1) D, List.length_cons]
theorem ents_get (n : Nat) (T : List St.Tr) : ∀ (k : Nat) (D : List (Int × Nat)) (j : Nat), (ents n T k D)[j]? = D[j]?.map fun d => ent n T (k + j) d
 | _, [], j => by simp [ents]
 | k, d :: D, 0 => by simp [ents]
 | k, d :: D, j + 1 => by
  rw [ents, List.getElem?_cons_succ, ents_get n T (k + 1) D j, List.getElem?_cons_succ, show k + 1 + j = k + (j + 1) by omega]
theorem ents_snoc (n : Nat) (T : List St.Tr) : ∀ (k : Nat) (D : List (Int × Nat)) (d : Int × Nat), ents n T k (D ++ [d]) = ents n T k D ++ [ent n T (k + D.length) d]
 | k, [], d => by simp [ents]
 | k, x :: D, d => by
  rw [List.cons_append, ents, ents, ents_snoc n T (k + 1) D d, List.cons_append, List.length_cons, show k + 1 + D.length = k + (D.length + 1) by omega]

/-- Block mb is the map of the levels of T; D: prices and the blocks of their parts. -/
def MR (base n : Nat) (T : List St.Tr) (D : List (Int × Nat)) (mb : Nat) (w : World) : Prop :=
 D.map (·.1) = St.pr T ∧ (∃ es : Array MapEntry, w.heap[mb]? = some (.map es D.length) ∧ es.toList = ents n T 0 D) ∧ base ≤ mb ∧
  (∀ d ∈ D, base ≤ d.2 ∧ IRow w d.2 (St.parts n T d.1)) ∧ (D.map (·.2)).Nodup

theorem nodup_get {α : Type} {l : List α} (h : l.Nodup) {i j : Nat} {x : α} (hi : l[i]? = some x) (hj : l[j]? = some x) : i = j := by
 obtain ⟨h1, h2⟩ := List.getElem?_eq_some_iff.1 hi
 obtain ⟨h3, h4⟩ := List.getElem?_eq_some_iff.1 hj
 have hp := List.pairwise_iff_getElem.1 h
 rcases Nat.lt_trichotomy i j with hlt | hlt | hlt
 ·exact absurd (h2.trans h4.symm) (hp i j h1 h3 hlt)
 ·exact hlt
 ·exact absurd (h4.trans h2.symm) (hp j i h3 h1 hlt)
theorem MR.hit {base n : Nat} {T : List St.Tr} {D : List (Int × Nat)} {mb : Nat} {w : World} (h : MR base n T D mb w) {p : Int} (hp : p ∈ St.pr T) :
  ∃ j g es, D[j]? = some (p, g) ∧ w.heap[mb]? = some (.map es D.length) ∧ es.toList = ents n T 0 D ∧ Instr.findNow (.int .i64) (.int .i64 p) es.toList 0 = some (some (j, .agg #[.int .i64 p, .int .i64 (St.qty T p), .slice (some ⟨g, 0, none⟩) n n])) ∧ base ≤ g ∧ IRow w g (St.parts n T p) := by
 obtain ⟨h1, ⟨es, h2, h3⟩, h4, h5, h6⟩ := h
 rw [← h1] at hp
 obtain ⟨d, hd, rfl⟩ := List.mem_map.1 hp
 obtain ⟨j, hj⟩ := List.getElem?_of_mem hd
 obtain ⟨p, g⟩ := d
 refine ⟨j, g, es, hj, h2, h3, ?_, (h5 _ hd).1, (h5 _ hd).2⟩
 rw [h3]
 have hn : (D.map (·.1)).Nodup := by rw [h1]; exact St.pr_nodup T
 have := findNow_hit (p := p) (es := ents n T 0 D) (j := j) (i := 0) (e := ent n T (0 + j) (p, g)) (by rw [ents_get, hj]; rfl) rfl fun j' hj' e' he' => by
  rw [ents_get] at he'
  obtain ⟨d', hd', rfl⟩ := Option.map_eq_some_iff.1 he'
  refine ⟨d'.1, rfl, fun e => ?_⟩
  have a1 : (D.map (·.1))[j']? = some p := by rw [List.getElem?_map, hd', ← e]; rfl
  have a2 : (D.map (·.1))[j]? = some p := by rw [List.getElem?_map, hj]; rfl
  have := nodup_get hn a1 a2
  omega
 rw [Nat.zero_add] at this
 exact this
theorem MR.miss {base n : Nat} {T : List St.Tr} {D : List (Int × Nat)} {mb : Nat} {w : World} (h : MR base n T D mb w) {p : Int} (hp : p ∉ St.pr T) :
  ∃ es, w.heap[mb]? = some (.map es D.length) ∧ es.toList = ents n T 0 D ∧ Instr.findNow (.int .i64) (.int .i64 p) es.toList 0 = some none := by
 obtain ⟨h1, ⟨es, h2, h3⟩, h4, h5, h6⟩ := h
 refine ⟨es, h2, h3, ?_⟩
 rw [h3]
 refine findNow_miss fun e he => ?_
 obtain ⟨j, hj⟩ := List.getElem?_of_mem he
 rw [ents_get] at hj
 obtain ⟨d', hd', rfl⟩ := Option.map_eq_some_iff.1 hj
 refine ⟨d'.1, rfl, fun e => hp ?_⟩
 rw [← h1, ← e]
 exact List.mem_map.2 ⟨d', List.mem_of_getElem? hd', rfl⟩

theorem heap_put {w : World} {r : Nat} (hr : r < w.heap.size) (o : Obj) : (setBlock w r o).heap[r]? = some o ∧ ∀ k, k ≠ r → (setBlock w r o).heap[k]? = w.heap[k]? := by
 refine ⟨by simp [setBlock, hr], fun k hk => ?_⟩
 simp only [setBlock]
 rw [Array.getElem?_setIfInBounds_ne (fun h => hk h.symm)]
theorem size_put (w : World) (r : Nat) (o : Obj) : (setBlock w r o).heap.size = w.heap.size := by simp [setBlock]
theorem below_put {B : Nat} {w0 w : World} (h : Below B w0 w) {r : Nat} (hr : B ≤ r) (hlt : r < w.heap.size) (o : Obj) : Below B w0 (setBlock w r o) :=
 h.trans ⟨rfl, rfl, rfl, by rw [size_put]; exact Nat.le_refl _, fun k hk => (heap_put hlt o).2 k (by omega)⟩
theorem MR.keep {base n : Nat} {T : List St.Tr} {D : List (Int × Nat)} {mb : Nat} {w w' : World} (h : MR base n T D mb w) (hb : Below w.heap.size w w') : MR base n T D mb w' := by
 obtain ⟨h1, ⟨es, h2, h3⟩, h4, h5, h6⟩ := h
 exact ⟨h1, ⟨es, (hb.block mb (Array.getElem?_eq_some_iff.1 h2).1).trans h2, h3⟩, h4, fun d hd => ⟨(h5 d hd).1, (h5 d hd).2.below hb⟩, h6⟩
theorem MR.lt {base n : Nat} {T : List St.Tr} {D : List (Int × Nat)} {mb : Nat} {w : World} (h : MR base n T D mb w) : mb < w.heap.size := by
 obtain ⟨h1, ⟨es, h2, h3⟩, _⟩ := h
 exact (Array.getElem?_eq_some_iff.1 h2).1
theorem MR.start {base n : Nat} {w : World} (hb : base ≤ w.heap.size) : MR base n [] [] w.heap.size (w.alloc (.map #[] 0)) :=
 ⟨rfl, ⟨#[], (MapKept.heap_alloc w _).1, rfl⟩, hb, fun d hd => by simp at hd, by simp⟩
theorem IRow.ne_map {w : World} {g mb : Nat} {xs : List Int} {es : Array MapEntry} {k : Nat} (h : IRow w g xs) (hm : w.heap[mb]? = some (.map es k)) : g ≠ mb := by
 rintro rfl
 unfold IRow Blk at h
 rw [hm] at h
 simp at h

theorem MR.hit_step {base n : Nat} {T : List St.Tr} {D : List (Int × Nat)} {mb : Nat} {w : World} (h : MR base n T D mb w) {p q : Int} {i j g : Nat} {es : Array MapEntry} (hj : D[j]? = some (p, g)) (hes : w.heap[mb]? = some (.map es D.length)) (hel : es.toList = ents n T 0 D) (hi : i < n) :
  MR base n (T ++ [(i, q, p)]) D mb (setBlock (w.setCell ⟨g, i, none⟩ (.int .i64 ((St.parts n T p)[i]?.getD 0 + q))) mb (.map (es.modify j fun e => { e with key := .int .i64 p, val := .agg #[.int .i64 p, .int .i64 (St.qty T p + q), .slice (some ⟨g, 0, none⟩) n n] }) D.length)) := by
 obtain ⟨h1, _, h4, h5, h6⟩ := h
 have hdm : (p, g) ∈ D := List.mem_of_getElem? hj
 have hpm : p ∈ St.pr T := by rw [← h1]; exact List.mem_map.2 ⟨_, hdm, rfl⟩
 have hn1 : (D.map (·.1)).Nodup := by rw [h1]; exact St.pr_nodup T
 have hgr := (h5 _ hdm).2
 have hgm : g ≠ mb := IRow.ne_map hgr hes
 have hmlt : mb < (w.setCell ⟨g, i, none⟩ (.int .i64 ((St.parts n T p)[i]?.getD 0 + q))).heap.size := by simpa [World.setCell] using (Array.getElem?_eq_some_iff.1 hes).1
 have hput := heap_put hmlt (.map (es.modify j fun e => { e with key := .int .i64 p, val := .agg #[.int .i64 p, .int .i64 (St.qty T p + q), .slice (some ⟨g, 0, none⟩) n n] }) D.length)
 refine ⟨?_, ⟨_, hput.1, ?_⟩, h4, fun d hd => ⟨(h5 d hd).1, ?_⟩, h6⟩
 ·rw [h1, St.pr_snoc]
  unfold St.addP
  rw [if_pos hpm]
 ·rw [Array.toList_modify, hel]
  apply List.ext_getElem?
  intro k
  rw [List.getElem?_modify, ents_get, ents_get]
  by_cases hjk : j = k
  ·subst hjk
   rw [hj]
   simp [ent, St.qty_snoc]
  ·cases hk : D[k]? with
   | none => simp [hjk]
   | some d =>
    have hne : d.1 ≠ p := fun e => by
     have a1 : (D.map (·.1))[k]? = some p := by rw [List.getElem?_map, hk, ← e]; rfl
     have a2 : (D.map (·.1))[j]? = some p := by rw [List.getElem?_map, hj]; rfl
     exact hjk (nodup_get hn1 a2 a1)
    simp [hjk, ent, St.qty_snoc, hne]
 ·have hdr := (h5 d hd).2
  have hdm' : d.2 ≠ mb := IRow.ne_map hdr hes
  rw [St.parts_snoc hi]
  by_cases hdp : d.1 = p
  ·have hdg : d = (p, g) := by
    obtain ⟨k, hk⟩ := List.getElem?_of_mem hd
    have a1 : (D.map (·.1))[k]? = some p := by rw [List.getElem?_map, hk, ← hdp]; rfl
    have a2 : (D.map (·.1))[j]? = some p := by rw [List.getElem?_map, hj]; rfl
    have := nodup_get hn1 a1 a2
    subst this
    rw [hk] at hj
    simpa using hj
   rw [if_pos hdp]
   subst hdg
   exact (hput.2 g hgm).trans (hgr.set i _)
  ·have hdg : d.2 ≠ g := fun e => by
    obtain ⟨k, hk⟩ := List.getElem?_of_mem hd
    have a1 : (D.map (·.2))[k]? = some g := by rw [List.getElem?_map, hk, ← e]; rfl
    have a2 : (D.map (·.2))[j]? = some g := by rw [List.getElem?_map, hj]; rfl
    have := nodup_get h6 a1 a2
    subst this
    rw [hk] at hj
    simp at hj
    exact hdp (by rw [hj])
   rw [if_neg hdp]
   exact (hput.2 d.2 hdm').trans (Blk.far hdr (p := ⟨g, i, none⟩) hdg _)

theorem MR.new_step {base n : Nat} {T : List St.Tr} {D : List (Int × Nat)} {mb : Nat} {w : World} (h : MR base n T D mb w) {p q : Int} {i g : Nat} {es : Array MapEntry} (hp : p ∉ St.pr T) (hes : w.heap[mb]? = some (.map es D.length)) (hel : es.toList = ents n T 0 D) (hi : i < n)
  (hg : IRow w g ((St.parts n T p).set i ((St.parts n T p)[i]?.getD 0 + q))) (hbg : base ≤ g) (hng : g ∉ D.map (·.2)) :
  MR base n (T ++ [(i, q, p)]) (D ++ [(p, g)]) mb (setBlock w mb (.map (es.push ⟨.int .i64 p, .agg #[.int .i64 p, .int .i64 (St.qty T p + q), .slice (some ⟨g, 0, none⟩) n n], D.length⟩) (D.length + 1))) := by
 obtain ⟨h1, _, h4, h5, h6⟩ := h
 have hput := heap_put (Array.getElem?_eq_some_iff.1 hes).1 (.map (es.push ⟨.int .i64 p, .agg #[.int .i64 p, .int .i64 (St.qty T p + q), .slice (some ⟨g, 0, none⟩) n n], D.length⟩) (D.length + 1))
 have hold : ∀ d ∈ D, d.1 ≠ p := fun d hd e => hp (by rw [← h1, ← e]; exact List.mem_map.2 ⟨d, hd, rfl⟩)
 refine ⟨?_, ⟨_, by simpa using hput.1, ?_⟩, h4, fun d hd => ?_, ?_⟩
 ·rw [List.map_append, h1, St.pr_snoc]
  unfold St.addP
  rw [if_neg hp]
  rfl
 ·rw [Array.toList_push, hel, ents_snoc, Nat.zero_add]
  congr 1
  ·apply List.ext_getElem?
   intro k
   rw [ents_get, ents_get]
   cases hk : D[k]? with
   | none => rfl
   | some d =>
    have hne := hold d (List.mem_of_getElem? hk)
    simp [ent, St.qty_snoc, hne]
  ·simp [ent, St.qty_snoc]
 ·rcases List.mem_append.1 hd with hd | hd
  ·have hdr := (h5 d hd).2
   refine ⟨(h5 d hd).1, ?_⟩
   rw [St.parts_snoc hi, if_neg (hold d hd)]
   exact (hput.2 d.2 (IRow.ne_map hdr hes)).trans hdr
  ·simp at hd
   subst hd
   refine ⟨hbg, ?_⟩
   rw [St.parts_snoc hi, if_pos rfl]
   exact (hput.2 g (IRow.ne_map hg hes)).trans hg
 ·rw [List.map_append, List.nodup_append]
  exact ⟨h6, by simp, fun a ha b hb => by simp at hb; subst hb; rintro rfl; exact hng ha⟩

end Go.Proofs.YtjajigkacccdgaaGreat
