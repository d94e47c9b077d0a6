/-
Package commit: what a call of best keeps: all but the map of known outcomes. Package commit: best. Package commit: bounds of the search's values. No statement of the seat is proved here; no conditions beyond those of each theorem.
-/
import Derived.Test.YtdoeejcmaeefcaaGreatJCp5
namespace Go.Proofs.YtdoeejcmaeefcaaGreat
set_option linter.unusedVariables false
set_option linter.unusedSimpArgs false
open Go.RowKit
open Wd
open Cm

/-- Cells that were there are there. -/
structure Ck (w w' : World) : Prop where
  size : w.heap.size ≤ w'.heap.size
  cell : ∀ p v, w.cell? p = some v → w'.cell? p = some v
theorem StAt.ck {w w' : World} {A : Option Addr} {n : Nat} {l : List (Int × Int)} (h : StAt w A n l) (hb : Ck w w') : StAt w' A n l := by
  refine ⟨h.1, h.2.1, fun hn => ?_⟩
  obtain ⟨b, o, rfl, hlt, hc⟩ := h.2.2 hn
  exact ⟨b, o, rfl, Nat.lt_of_lt_of_le hlt hb.size, fun j hj => ⟨hb.cell _ _ (hc j hj).1, hb.cell _ _ (hc j hj).2⟩⟩
theorem UsAt.ck {w w' : World} {A : Option Addr} {n : Nat} {us : List Un} (h : UsAt w A n us) (hb : Ck w w') : UsAt w' A n us := by
  refine ⟨h.1, fun hn => ?_⟩
  obtain ⟨b, o, rfl, hlt, hc⟩ := h.2 hn
  refine ⟨b, o, rfl, Nat.lt_of_lt_of_le hlt hb.size, fun j hj => ?_⟩
  obtain ⟨A', n', c', ⟨h0, h1, h2, h3, h4, h5, h6, h7, h8⟩, hs, hn'⟩ := hc j hj
  exact ⟨A', n', c', ⟨hb.cell _ _ h0, hb.cell _ _ h1, hb.cell _ _ h2, hb.cell _ _ h3, hb.cell _ _ h4, hb.cell _ _ h5, hb.cell _ _ h6, hb.cell _ _ h7, hb.cell _ _ h8⟩, hs.ck hb, hn'⟩
theorem SupAt.ck {w w' : World} {A : Option Addr} {m N : Nat} {R : List Row} (h : SupAt w A m N R) (hb : Ck w w') : SupAt w' A m N R := by
  refine ⟨h.1, fun hn => ?_⟩
  obtain ⟨b, o, rfl, hlt, hc⟩ := h.2 hn
  refine ⟨b, o, rfl, Nat.lt_of_lt_of_le hlt hb.size, fun j hj => ?_⟩
  obtain ⟨g, cc, h1, h2, h3⟩ := hc j hj
  exact ⟨g, cc, hb.cell _ _ h1, Nat.lt_of_lt_of_le h2 hb.size, fun c hcc => ⟨hb.cell _ _ (h3 c hcc).1, hb.cell _ _ (h3 c hcc).2⟩⟩
/-- Below B all but block mb is kept. -/
structure Bm (mb B : Nat) (w w' : World) : Prop where
  os : w'.os = w.os
  tape : w'.tape = w.tape
  output : w'.output = w.output
  size : w.heap.size ≤ w'.heap.size
  block : ∀ k, k < B → k ≠ mb → w'.heap[k]? = w.heap[k]?
theorem Bm.refl (mb B : Nat) (w : World) : Bm mb B w w := ⟨rfl, rfl, rfl, Nat.le_refl _, fun _ _ _ => rfl⟩
theorem Bm.of {mb B : Nat} {w w' : World} (h : Below B w w') : Bm mb B w w' := ⟨h.os, h.tape, h.output, h.size, fun k hk _ => h.block k hk⟩
theorem Bm.trans {mb B : Nat} {a b c : World} (h : Bm mb B a b) (k : Bm mb B b c) : Bm mb B a c :=
  ⟨k.os.trans h.os, k.tape.trans h.tape, k.output.trans h.output, Nat.le_trans h.size k.size, fun i hi hm => (k.block i hi hm).trans (h.block i hi hm)⟩
theorem Bm.mono {mb B B' : Nat} {a b : World} (h : Bm mb B a b) (hB : B' ≤ B) : Bm mb B' a b := ⟨h.os, h.tape, h.output, h.size, fun k hk hm => h.block k (Nat.lt_of_lt_of_le hk hB) hm⟩
theorem Bm.drew {mb B : Nat} {a w : World} (h : Bm mb B a w) : Bm mb B a w.drew := ⟨h.os, h.tape, h.output, h.size, h.block⟩
theorem Bm.alloc {mb B : Nat} {a w : World} (h : Bm mb B a w) (hB : B ≤ w.heap.size) (o : Obj) : Bm mb B a (w.alloc o) := h.trans (Bm.of ((Below.refl B w).alloc hB o))
theorem Bm.set {mb B : Nat} {a w : World} (h : Bm mb B a w) {p : Addr} (hp : B ≤ p.block) (u : Value) : Bm mb B a (w.setCell p u) := h.trans (Bm.of ((Below.refl B w).setCell hp u))
theorem Bm.ne {w : World} {mb : Nat} {es : Array MapEntry} {k : Nat} {p : Addr} {v : Value} (hm : w.heap[mb]? = some (.map es k)) (hc : w.cell? p = some v) : p.block ≠ mb := by
  intro e
  unfold World.cell? at hc
  rw [e, hm] at hc
  simp at hc
theorem Bm.neB {w : World} {mb g : Nat} {es : Array MapEntry} {k : Nat} {t : TypeId} {cs : Array Value} (hm : w.heap[mb]? = some (.map es k)) (hc : Blk w g t cs) : g ≠ mb := by
  intro e
  unfold Blk at hc
  rw [e, hm] at hc
  simp at hc
theorem cell_lt {w : World} {p : Addr} {v : Value} (hc : w.cell? p = some v) : p.block < w.heap.size := by
  rcases Nat.lt_or_ge p.block w.heap.size with h | h
  · exact h
  · unfold World.cell? at hc
    rw [Array.getElem?_eq_none h] at hc
    simp at hc
theorem Bm.ck {w w' : World} {mb : Nat} {es : Array MapEntry} {k : Nat} (h : Bm mb w.heap.size w w') (hm : w.heap[mb]? = some (.map es k)) : Ck w w' :=
  ⟨h.size, fun p v hc => (World.cell?_of_block (w := w) (h.block p.block (cell_lt hc) (Bm.ne hm hc))).trans hc⟩
theorem Bm.blk {w w' : World} {mb g : Nat} {es : Array MapEntry} {k : Nat} {t : TypeId} {cs : Array Value} (h : Bm mb w.heap.size w w') (hm : w.heap[mb]? = some (.map es k)) (hc : Blk w g t cs) : Blk w' g t cs :=
  (h.block g hc.lt (Bm.neB hm hc)).trans hc
theorem SrAt.bm {us : List Un} {R : List Row} {gs : Nat} {A : Option Addr} {n cu m : Nat} {As : Option Addr} {ca mb : Nat} {w w' : World} {es : Array MapEntry} {k : Nat} (hS : SrAt us R gs A n cu m As ca mb w) (h : Bm mb w.heap.size w w') (hm : w.heap[mb]? = some (.map es k)) : SrAt us R gs A n cu m As ca mb w' := by
  obtain ⟨cs, hb, hc⟩ := hS.blk
  exact ⟨⟨cs, h.blk hm hb, hc⟩, hS.units.ck (h.ck hm), hS.sup.ck (h.ck hm), hS.ok, hS.n5, hS.m8, hS.rb⟩
theorem KnR.bm {V : Nat → List Int → Option (Nat × Int)} {n : Nat} {w w' : World} {mb : Nat} (h : KnR V n w mb) (hb : Below w.heap.size w w') : KnR V n w' mb := h.keep (hb.block mb h.lt)

end Go.Proofs.YtdoeejcmaeefcaaGreat

namespace Go.Proofs.YtdoeejcmaeefcaaGreat
set_option linter.unusedVariables false
set_option linter.unusedSimpArgs false
open Go.RowKit
open Wd
open Cm

theorem KnR.look2 {V : Nat → List Int → Option (Nat × Int)} {n : Nat} {w : World} {mb h : Nat} {ss : List Int} (hn : n ≤ 5) (hk : KnR V n w mb) (hh : h ≤ 1000) (hs : PtOk n ss) :
    (∀ w' : World, w'.heap[mb]? = w.heap[mb]? → (Instr.lookup 90 (.map (some mb)) (ptV h ss) true).run Tryz.prog w' = .ok (.tuple #[outV (V h ss), .bool true]) w') ∨ (∀ w' : World, w'.heap[mb]? = w.heap[mb]? → (Instr.lookup 90 (.map (some mb)) (ptV h ss) true).run Tryz.prog w' = .ok (.tuple #[outV none, .bool false]) w') := by
  obtain ⟨es, clock, hb, he⟩ := hk
  obtain ⟨l, hl⟩ := pt_key (wf_small (x := (h : Int)) (by omega) (by omega)) hs.wf
  have hall : ∀ e ∈ es.toList, ∃ l, keyOf Tryz.prog 71 e.key = some l := fun e hem => by
    obtain ⟨h', ss', g1, g2, g3, _⟩ := he e hem
    rw [g3]
    exact pt_key (wf_small (by omega) (by omega)) g2.wf
  by_cases hex : ∃ e ∈ es.toList, e.key = ptV h ss
  · left
    intro w' hw
    have hb' := hw.trans hb
    have hc := fun em => pt_law.check w' em hl
    rcases pt_law.find w' hl es.toList hall with ⟨hf, hno⟩ | ⟨j, e, hf, hj, hke⟩
    · obtain ⟨e, h1, h2⟩ := hex
      exact absurd h2 (hno e h1)
    · have hem : e ∈ es.toList := by
        obtain ⟨hj1, rfl⟩ := List.getElem?_eq_some_iff.1 hj
        exact List.getElem_mem hj1
      obtain ⟨h', ss', g1, g2, g3, g4⟩ := he e hem
      obtain ⟨e1, e2⟩ := ptV_inj hn g2.1 hs.1 (g3.symm.trans hke)
      have e3 : h' = h := by omega
      rw [e2, e3] at g4
      simp [Instr.lookup, run_underlying und_map, MapKept.run_getObj_map hb', hc, hf, g4, Result.andThen]
  · right
    intro w' hw
    have hb' := hw.trans hb
    have hc := fun em => pt_law.check w' em hl
    rcases pt_law.find w' hl es.toList hall with ⟨hf, _⟩ | ⟨j, e, hf, hj, hke⟩
    · simp [Instr.lookup, run_underlying und_map, MapKept.run_getObj_map hb', hc, hf, zero_out, Result.andThen]
      rfl
    · refine absurd ⟨e, ?_, hke⟩ hex
      obtain ⟨hj1, rfl⟩ := List.getElem?_eq_some_iff.1 hj
      exact List.getElem_mem hj1
/-- The cheapest continuation from an hour on. -/
def bsV (us : List Un) (R : List Row) (n h : Nat) (ss : List Int) : Option (Nat × Int) := best (mv us) (2 ^ n) (R.drop h) ss
theorem bsV_end {us : List Un} {R : List Row} {n : Nat} {ss : List Int} : bsV us R n R.length ss = some (0, 0) := by
  unfold bsV
  rw [List.drop_length]
  rfl
theorem bsV_step {us : List Un} {R : List Row} {n h : Nat} {ss : List Int} (hh : h < R.length) : bsV us R n h ss = scan (val1 (mv us) (bsV us R n (h + 1)) (R[h]?.getD []) ss) (2 ^ n) := by
  unfold bsV
  rw [List.drop_eq_getElem_cons hh, List.getElem?_eq_getElem hh]
  rfl

theorem Blk.three {w : World} {g : Nat} {t : TypeId} {a b c : Value} (h : Blk w g t #[a, b, c]) : w.cell? ⟨g, 0, none⟩ = some a ∧ w.cell? ⟨g, 1, none⟩ = some b ∧ w.cell? ⟨g, 2, none⟩ = some c ∧ w.frozen? ⟨g, 0, none⟩ = false ∧ w.frozen? ⟨g, 1, none⟩ = false ∧ w.frozen? ⟨g, 2, none⟩ = false := ⟨h.cell 0, h.cell 1, h.cell 2, h.frozen 0, h.frozen 1, h.frozen 2⟩
theorem Kp.set3 {W w' : World} (h : Kp W w') {g : Nat} (hg : W.heap.size ≤ g) (a b c : Value) : Kp W (((w'.setCell ⟨g, 0, none⟩ a).setCell ⟨g, 1, none⟩ b).setCell ⟨g, 2, none⟩ c) := ((h.set (p := ⟨g, 0, none⟩) hg a).set (p := ⟨g, 1, none⟩) hg b).set (p := ⟨g, 2, none⟩) hg c
def st3 (w : World) (g : Nat) (a b c : Value) : World := ((w.setCell ⟨g, 0, none⟩ a).setCell ⟨g, 1, none⟩ b).setCell ⟨g, 2, none⟩ c
theorem Blk.set3 {w : World} {g : Nat} {t : TypeId} {a b c a' b' c' : Value} (h : Blk w g t #[a', b', c']) : Blk (st3 w g a b c) g t #[a, b, c] := ((h.set 0 a).set 1 b).set 2 c
theorem bm_set3 {mb B : Nat} {w0 w : World} (h : Bm mb B w0 w) {g : Nat} (hg : B ≤ g) (a b c : Value) : Bm mb B w0 (st3 w g a b c) := ((h.set (p := ⟨g, 0, none⟩) hg a).set (p := ⟨g, 1, none⟩) hg b).set (p := ⟨g, 2, none⟩) hg c
theorem knr_set3 {V : Nat → List Int → Option (Nat × Int)} {n : Nat} {w : World} {mb g : Nat} (h : KnR V n w mb) (hg : mb ≠ g) (a b c : Value) : KnR V n (st3 w g a b c) mb :=
  h.keep (((Below.heap_setCell _ ⟨g, 2, none⟩ c mb hg).trans (Below.heap_setCell _ ⟨g, 1, none⟩ b mb hg)).trans (Below.heap_setCell _ ⟨g, 0, none⟩ a mb hg))

set_option maxRecDepth 100000 in
set_option maxHeartbeats 4000000 in
theorem best_end (us : List Un) (R : List Row) (gs : Nat) (A : Option Addr) (n cu m : Nat) (As : Option Addr) (ca mb : Nat) (ss : List Int) (w : World) (hS : SrAt us R gs A n cu m As ca mb w) (hk : KnR (bsV us R n) n w mb) :
    Calls Tryz.prog 38 #[.pointer (some ⟨gs, 0, none⟩), ptV (m : Int) ss] w fun e w' => e = .returned (outV (bsV us R n m ss)) ∧ Bm mb w.heap.size w w' ∧ KnR (bsV us R n) n w' mb := by
  obtain ⟨cs, hblk, hsr⟩ := hS.blk
  have hRm : R.length = m := hS.sup.1
  subst hRm
  rw [bsV_end]
  generalize hm : R.length = m at *
  have hgs := hblk.lt
  have e1 := (hblk.cell 1).trans hsr.hours
  unfold ptV ptC
  generalize ss[0]?.getD 0 = s0 at *
  generalize ss[1]?.getD 0 = s1 at *
  generalize ss[2]?.getD 0 = s2 at *
  generalize ss[3]?.getD 0 = s3 at *
  generalize ss[4]?.getD 0 = s4 at *
  have k1 := (Kp.refl w).alloc (.cells #[.int .i64 (m : Int), .int .i64 s0, .int .i64 s1, .int .i64 s2, .int .i64 s3, .int .i64 s4] 71)
  have k2 := k1.alloc (.cells #[.bool false, .int .i64 0, .int .i64 0] 73)
  have hB3 := (Blk.new w 71 #[.int .i64 (m : Int), .int .i64 s0, .int .i64 s1, .int .i64 s2, .int .i64 s3, .int .i64 s4]).alloc (.cells #[.bool false, .int .i64 0, .int .i64 0] 73)
  have hB4 := Blk.new (w.alloc (.cells #[.int .i64 (m : Int), .int .i64 s0, .int .i64 s1, .int .i64 s2, .int .i64 s3, .int .i64 s4] 71)) 73 #[.bool false, .int .i64 0, .int .i64 0]
  simp only [World.size_alloc] at hB4
  have c1 := (Below.cell k2 (p := ⟨gs, 1, none⟩) hgs).trans e1
  have hlt := hk.lt
  have HK := Lib.hid (hk.bm k2)
  have HK2 := Lib.hid k2
  clear hS hk hsr hblk k1 e1 k2
  go_enter Tryz.func38, Tryz.ntmps38
  go_wp2_with fail
  generalize (w.alloc (.cells #[.int .i64 (m : Int), .int .i64 s0, .int .i64 s1, .int .i64 s2, .int .i64 s3, .int .i64 s4] 71)).alloc (.cells #[.bool false, .int .i64 0, .int .i64 0] 73) = W at *
  have hee : ((m : Int) == (m : Int)) = true := by simp
  have HS := Lib.hid (show ∀ w', Kp W w' → (w'.cell? ⟨w.heap.size, 0, none⟩ = some (.int .i64 (m : Int)) ∧ w'.cell? ⟨gs, 1, none⟩ = some (.int .i64 (m : Int))) ∧ Kp W w' from fun w' hk => ⟨⟨(hk.blk hB3).cell 0, (Below.cell hk (p := ⟨gs, 1, none⟩) (Nat.lt_of_lt_of_le hgs HK2.out.size)).trans c1⟩, hk⟩)
  have hk0 := Kp.refl W
  have HB4 := Lib.hid hB4
  have HLT := Lib.hid hlt
  clear hB3 hB4 c1 hm hlt
  go_region_held3 (fun w' => (w'.cell? ⟨w.heap.size, 0, none⟩ = some (.int .i64 (m : Int)) ∧ w'.cell? ⟨gs, 1, none⟩ = some (.int .i64 (m : Int))) ∧ Kp W w')
    (first | (with_reducible refine HS.out _ ?_; with_reducible assumption) | (with_reducible refine HS.out _ (Kp.drew ?_); with_reducible assumption) | (with_reducible refine' HS.out _ (Kp.drew (And.right ?_)); rotate_left; with_reducible assumption))
    (fail)
  rename_i hHeld
  have hWd : Kp W W.drew := Kp.drew (Kp.refl W)
  have hB4 := Kp.blk hWd HB4.out
  have hKd := HK.out.bm hWd
  have hk2 := Kp.trans HK2.out hWd
  generalize W.drew = V at *
  have HF := Lib.hid (show Bm mb w.heap.size w (st3 V (w.heap.size + 1) (.bool true) (.int .i64 0) (.int .i64 0)) ∧ KnR (bsV us R n) n (st3 V (w.heap.size + 1) (.bool true) (.int .i64 0) (.int .i64 0)) mb from ⟨bm_set3 (Bm.of hk2) (by omega) _ _ _, knr_set3 hKd (by have := HLT.out; omega) _ _ _⟩)
  obtain ⟨d0, d1, d2, _, _, _⟩ := (hB4.set3 (a := .bool true) (b := .int .i64 0) (c := .int .i64 0)).three
  obtain ⟨b0, b1, b2, b3, b4, b5⟩ := hB4.three
  clear hHeld hk0 HS hWd hB4 hKd hk2 HK HK2
  go_wp2
  refine bodyPost_ret (v := .agg #[.bool true, .int .i64 0, .int .i64 0]) ?_ rfl ⟨rfl, HF.out.1, HF.out.2⟩
  unfold st3 at d0 d1 d2
  simp [results, Tryz.results38, go_sem, d0, d1, d2]

set_option maxRecDepth 100000 in
set_option maxHeartbeats 4000000 in
theorem best_known (us : List Un) (R : List Row) (gs : Nat) (A : Option Addr) (n cu m : Nat) (As : Option Addr) (ca mb h : Nat) (ss : List Int) (w : World) (hS : SrAt us R gs A n cu m As ca mb w) (hk : KnR (bsV us R n) n w mb) (hh : h < m)
    (hl : ∀ w' : World, w'.heap[mb]? = w.heap[mb]? → (Instr.lookup 90 (.map (some mb)) (ptV h ss) true).run Tryz.prog w' = .ok (.tuple #[outV (bsV us R n h ss), .bool true]) w') :
    Calls Tryz.prog 38 #[.pointer (some ⟨gs, 0, none⟩), ptV (h : Int) ss] w fun e w' => e = .returned (outV (bsV us R n h ss)) ∧ Bm mb w.heap.size w w' ∧ KnR (bsV us R n) n w' mb := by
  obtain ⟨cs, hblk, hsr⟩ := hS.blk
  have hgs := hblk.lt
  have e1 := (hblk.cell 1).trans hsr.hours
  have e2 := (hblk.cell 263).trans hsr.known
  generalize bsV us R n h ss = o at *
  unfold ptV ptC outV at hl
  unfold ptV ptC outV
  generalize ss[0]?.getD 0 = s0 at *
  generalize ss[1]?.getD 0 = s1 at *
  generalize ss[2]?.getD 0 = s2 at *
  generalize ss[3]?.getD 0 = s3 at *
  generalize ss[4]?.getD 0 = s4 at *
  generalize o.isSome = oa at *
  generalize (((o.getD (0, 0)).1 : Nat) : Int) = oc at *
  generalize (o.getD (0, 0)).2 = ox at *
  have k1 := (Kp.refl w).alloc (.cells #[.int .i64 (h : Int), .int .i64 s0, .int .i64 s1, .int .i64 s2, .int .i64 s3, .int .i64 s4] 71)
  have k2 := k1.alloc (.cells #[.bool false, .int .i64 0, .int .i64 0] 73)
  have hB3 := (Blk.new w 71 #[.int .i64 (h : Int), .int .i64 s0, .int .i64 s1, .int .i64 s2, .int .i64 s3, .int .i64 s4]).alloc (.cells #[.bool false, .int .i64 0, .int .i64 0] 73)
  have hB4 := Blk.new (w.alloc (.cells #[.int .i64 (h : Int), .int .i64 s0, .int .i64 s1, .int .i64 s2, .int .i64 s3, .int .i64 s4] 71)) 73 #[.bool false, .int .i64 0, .int .i64 0]
  simp only [World.size_alloc] at hB4
  have c1 := (Below.cell k2 (p := ⟨gs, 1, none⟩) hgs).trans e1
  have c2 := (Below.cell k2 (p := ⟨gs, 263, none⟩) hgs).trans e2
  have hlt := hk.lt
  have HK := Lib.hid (hk.bm k2)
  have HK2 := Lib.hid k2
  have hl2 : ∀ w', Kp ((w.alloc (.cells #[.int .i64 (h : Int), .int .i64 s0, .int .i64 s1, .int .i64 s2, .int .i64 s3, .int .i64 s4] 71)).alloc (.cells #[.bool false, .int .i64 0, .int .i64 0] 73)) w' → (Instr.lookup 90 (.map (some mb)) (.agg #[.int .i64 (h : Int), .int .i64 s0, .int .i64 s1, .int .i64 s2, .int .i64 s3, .int .i64 s4]) true).run Tryz.prog w' = .ok (.tuple #[.agg #[.bool oa, .int .i64 oc, .int .i64 ox], .bool true]) w' := fun w' hk' => hl w' ((Kp.trans k2 hk').block mb hlt)
  clear hS hk hsr hblk k1 e1 e2 k2 hl
  go_enter Tryz.func38, Tryz.ntmps38
  go_wp2_with fail
  generalize (w.alloc (.cells #[.int .i64 (h : Int), .int .i64 s0, .int .i64 s1, .int .i64 s2, .int .i64 s3, .int .i64 s4] 71)).alloc (.cells #[.bool false, .int .i64 0, .int .i64 0] 73) = W at *
  have hee : ((h : Int) == (m : Int)) = false := by simp; omega
  have HS := Lib.hid (show ∀ w', Kp W w' → (w'.cell? ⟨w.heap.size, 0, none⟩ = some (.int .i64 (h : Int)) ∧ w'.cell? ⟨gs, 1, none⟩ = some (.int .i64 (m : Int))) ∧ Kp W w' from fun w' hk => ⟨⟨(hk.blk hB3).cell 0, (Below.cell hk (p := ⟨gs, 1, none⟩) (Nat.lt_of_lt_of_le hgs HK2.out.size)).trans c1⟩, hk⟩)
  have HS2 := Lib.hid (show ∀ w', Kp W w' → (w'.cell? ⟨gs, 263, none⟩ = some (.map (some mb)) ∧ w'.cell? ⟨w.heap.size, 0, none⟩ = some (.int .i64 (h : Int)) ∧ w'.cell? ⟨w.heap.size, 1, none⟩ = some (.int .i64 s0) ∧ w'.cell? ⟨w.heap.size, 2, none⟩ = some (.int .i64 s1) ∧ w'.cell? ⟨w.heap.size, 3, none⟩ = some (.int .i64 s2) ∧ w'.cell? ⟨w.heap.size, 4, none⟩ = some (.int .i64 s3) ∧ w'.cell? ⟨w.heap.size, 5, none⟩ = some (.int .i64 s4) ∧ (Instr.lookup 90 (.map (some mb)) (.agg #[.int .i64 (h : Int), .int .i64 s0, .int .i64 s1, .int .i64 s2, .int .i64 s3, .int .i64 s4]) true).run Tryz.prog w' = .ok (.tuple #[.agg #[.bool oa, .int .i64 oc, .int .i64 ox], .bool true]) w') ∧ Kp W w' from fun w' hk => ⟨⟨(Below.cell hk (p := ⟨gs, 263, none⟩) (Nat.lt_of_lt_of_le hgs HK2.out.size)).trans c2, (hk.blk hB3).cell 0, (hk.blk hB3).cell 1, (hk.blk hB3).cell 2, (hk.blk hB3).cell 3, (hk.blk hB3).cell 4, (hk.blk hB3).cell 5, hl2 w' hk⟩, hk⟩)
  have hk0 := Kp.refl W
  have HB4 := Lib.hid hB4
  have HLT := Lib.hid hlt
  clear hB3 hB4 c1 c2 hlt hl2 hh
  go_region_held3 (fun w' => (w'.cell? ⟨w.heap.size, 0, none⟩ = some (.int .i64 (h : Int)) ∧ w'.cell? ⟨gs, 1, none⟩ = some (.int .i64 (m : Int))) ∧ Kp W w')
    (first | (with_reducible refine HS.out _ ?_; with_reducible assumption) | (with_reducible refine HS.out _ (Kp.drew ?_); with_reducible assumption) | (with_reducible refine' HS.out _ (Kp.drew (And.right ?_)); rotate_left; with_reducible assumption))
    (fail)
  rename_i hHeld
  have hk1 := Kp.drew (Kp.refl W)
  generalize W.drew = W1 at *
  have HS3 := Lib.hid (show ∀ w', Kp W1 w' → (w'.cell? ⟨gs, 263, none⟩ = some (.map (some mb)) ∧ w'.cell? ⟨w.heap.size, 0, none⟩ = some (.int .i64 (h : Int)) ∧ w'.cell? ⟨w.heap.size, 1, none⟩ = some (.int .i64 s0) ∧ w'.cell? ⟨w.heap.size, 2, none⟩ = some (.int .i64 s1) ∧ w'.cell? ⟨w.heap.size, 3, none⟩ = some (.int .i64 s2) ∧ w'.cell? ⟨w.heap.size, 4, none⟩ = some (.int .i64 s3) ∧ w'.cell? ⟨w.heap.size, 5, none⟩ = some (.int .i64 s4) ∧ (Instr.lookup 90 (.map (some mb)) (.agg #[.int .i64 (h : Int), .int .i64 s0, .int .i64 s1, .int .i64 s2, .int .i64 s3, .int .i64 s4]) true).run Tryz.prog w' = .ok (.tuple #[.agg #[.bool oa, .int .i64 oc, .int .i64 ox], .bool true]) w') ∧ Kp W1 w' from fun w' hk => ⟨(HS2.out w' (Kp.trans hk1 hk)).1, hk⟩)
  have HK1 := Lib.hid hk1
  have hk0 := Kp.refl W1
  clear hHeld HS HS2 hk1
  go_wp2_with fail
  go_region_held3 (fun w' => (w'.cell? ⟨gs, 263, none⟩ = some (.map (some mb)) ∧ w'.cell? ⟨w.heap.size, 0, none⟩ = some (.int .i64 (h : Int)) ∧ w'.cell? ⟨w.heap.size, 1, none⟩ = some (.int .i64 s0) ∧ w'.cell? ⟨w.heap.size, 2, none⟩ = some (.int .i64 s1) ∧ w'.cell? ⟨w.heap.size, 3, none⟩ = some (.int .i64 s2) ∧ w'.cell? ⟨w.heap.size, 4, none⟩ = some (.int .i64 s3) ∧ w'.cell? ⟨w.heap.size, 5, none⟩ = some (.int .i64 s4) ∧ (Instr.lookup 90 (.map (some mb)) (.agg #[.int .i64 (h : Int), .int .i64 s0, .int .i64 s1, .int .i64 s2, .int .i64 s3, .int .i64 s4]) true).run Tryz.prog w' = .ok (.tuple #[.agg #[.bool oa, .int .i64 oc, .int .i64 ox], .bool true]) w') ∧ Kp W1 w')
    (first | (with_reducible refine HS3.out _ ?_; with_reducible assumption) | (with_reducible refine HS3.out _ (Kp.drew ?_); with_reducible assumption) | (with_reducible refine' HS3.out _ (Kp.drew (And.right ?_)); rotate_left; with_reducible assumption) | (with_reducible refine' HS3.out _ (Kp.alloc (And.right ?_) _); rotate_left; with_reducible assumption) | (with_reducible refine' HS3.out _ (Kp.alloc ?_ _); rotate_left; with_reducible assumption) | (with_reducible refine HS3.out _ (Kp.drew (Kp.alloc ?_ _)); with_reducible assumption) | (with_reducible refine' HS3.out _ (Kp.set3 (And.right ?_) ?_ _ _ _); rotate_left; (with_reducible assumption); exact Nat.le_refl _))
    (fail)
  all_goals (
    rename_i hHeld
    have hZ : Kp W1 (W1.alloc (.cells #[.bool oa, .int .i64 oc, .int .i64 ox] 73)).drew := Kp.drew ((Kp.refl W1).alloc _)
    have hB5 : Blk (W1.alloc (.cells #[.bool oa, .int .i64 oc, .int .i64 ox] 73)).drew W1.heap.size 73 #[.bool oa, .int .i64 oc, .int .i64 ox] := Blk.drew (Blk.new W1 73 _)
    have hkW := Kp.trans HK1.out hZ
    have hB4 := Kp.blk hkW HB4.out
    have hKd := HK.out.bm hkW
    have hk2 := Kp.trans HK2.out hkW
    generalize (W1.alloc (.cells #[.bool oa, .int .i64 oc, .int .i64 ox] 73)).drew = V at *
    have HF := Lib.hid (show Bm mb w.heap.size w (st3 V (w.heap.size + 1) (.bool oa) (.int .i64 oc) (.int .i64 ox)) ∧ KnR (bsV us R n) n (st3 V (w.heap.size + 1) (.bool oa) (.int .i64 oc) (.int .i64 ox)) mb from ⟨bm_set3 (Bm.of hk2) (by omega) _ _ _, knr_set3 hKd (by have := HLT.out; omega) _ _ _⟩)
    obtain ⟨d0, d1, d2, _, _, _⟩ := (hB4.set3 (a := .bool oa) (b := .int .i64 oc) (c := .int .i64 ox)).three
    obtain ⟨b0, b1, b2, b3, b4, b5⟩ := hB4.three
    obtain ⟨x0, x1, x2, _, _, _⟩ := hB5.three
    clear hHeld hk0 HS3 hZ hB4 hB5 hkW hKd hk2 HK HK2 HK1
    go_wp2
    refine bodyPost_ret (v := .agg #[.bool oa, .int .i64 oc, .int .i64 ox]) ?_ rfl ⟨rfl, HF.out.1, HF.out.2⟩
    unfold st3 at d0 d1 d2
    simp [results, Tryz.results38, go_sem, d0, d1, d2])

end Go.Proofs.YtdoeejcmaeefcaaGreat

namespace Go.Proofs.YtdoeejcmaeefcaaGreat
set_option linter.unusedVariables false
set_option linter.unusedSimpArgs false
open Go.RowKit
open Wd
open Cm

theorem mv_bd {us : List Un} {row : Row} {ss r : List Int} {c : Nat} {x : Int} (h5 : us.length ≤ 5) (hu : ∀ u ∈ us, uchk u = 0) (hr : ∀ (c : Nat) (x : Int), row[c]?.getD none = some x → x.natAbs ≤ 45000000000000) (h : mv us row ss c = some (r, x)) : r.length = us.length ∧ x.natAbs ≤ 50000000000000 := by
  unfold mv at h
  split at h
  · simp at h
  · rename_i k e
    split at h
    · simp at h
    · rename_i r0 y e2
      simp only [Option.some.injEq, Prod.mk.injEq] at h
      obtain ⟨rfl, rfl⟩ := h
      have h1 := mvK_bd hu (Nat.le_refl _) e2
      have h2 := hr _ _ e
      omega
theorem best_bd {us : List Un} {N : Nat} (h5 : us.length ≤ 5) (hu : ∀ u ∈ us, uchk u = 0) : ∀ {hs : List Row} {ss : List Int} {c : Nat} {v : Int}, (∀ row ∈ hs, ∀ (c : Nat) (x : Int), row[c]?.getD none = some x → x.natAbs ≤ 45000000000000) → best (mv us) N hs ss = some (c, v) → v.natAbs ≤ hs.length * 50000000000000
  | [], ss, c, v, hr, h => by
    simp only [best, Option.some.injEq, Prod.mk.injEq] at h
    obtain ⟨_, rfl⟩ := h
    simp
  | row :: hs, ss, c, v, hr, h => by
    rw [best] at h
    have h1 := (scan_some.1 h).2.1
    unfold val1 at h1
    split at h1
    · simp at h1
    · rename_i s' k e
      split at h1
      · simp at h1
      · rename_i c' v' e2
        simp only [Option.some.injEq] at h1
        have h2 := best_bd h5 hu (fun r hm => hr r (List.mem_cons_of_mem _ hm)) e2
        have h3 := (mv_bd h5 hu (hr row (List.mem_cons_self ..)) e).2
        rw [List.length_cons]
        omega
theorem bsV_bd {us : List Un} {R : List Row} {n h c : Nat} {ss : List Int} {v : Int} (h5 : us.length ≤ 5) (hu : ∀ u ∈ us, uchk u = 0) (hm : R.length ≤ 8) (hr : ∀ (j c : Nat) (x : Int), (R[j]?.getD [])[c]?.getD none = some x → x.natAbs ≤ 45000000000000) (hb : bsV us R n h ss = some (c, v)) : v.natAbs ≤ 400000000000000 := by
  unfold bsV at hb
  have h1 := best_bd h5 hu (fun row hmem c x e => by
    obtain ⟨j, hj, rfl⟩ := List.mem_iff_getElem.1 hmem
    refine hr (h + j) c x ?_
    rw [List.getElem_drop] at e
    rw [List.length_drop] at hj
    rw [List.getElem?_eq_getElem (show h + j < R.length by omega)]
    exact e) hb
  rw [List.length_drop] at h1
  omega
theorem mv_ok {us : List Un} {row : Row} {ss r : List Int} {c : Nat} {x : Int} (hu : ∀ u ∈ us, uchk u = 0) (hst : ∀ i, i < us.length → StOk (us[i]?.getD U0) (ss[i]?.getD 0)) (h : mv us row ss c = some (r, x)) : PtOk us.length r ∧ ∀ i, i < us.length → StOk (us[i]?.getD U0) (r[i]?.getD 0) := by
  obtain ⟨k, h1, h2, h3, h4⟩ := mv_iff.1 h
  have key : ∀ i, i < us.length → StOk (us[i]?.getD U0) (r[i]?.getD 0) := fun i hi => (unext_ok (hu _ (gmem (d := U0) hi)) (hst i hi) (h3 i hi)).1
  refine ⟨⟨h2, fun s hs => ?_⟩, key⟩
  obtain ⟨j, hj, rfl⟩ := List.mem_iff_getElem.1 hs
  have h5 := key j (by omega)
  have h6 := uchk_rest (hu _ (gmem (d := U0) (show j < us.length by omega)))
  rw [List.getElem?_eq_getElem hj] at h5
  unfold StOk at h5
  simp only [Option.getD_some] at h5
  omega

end Go.Proofs.YtdoeejcmaeefcaaGreat
