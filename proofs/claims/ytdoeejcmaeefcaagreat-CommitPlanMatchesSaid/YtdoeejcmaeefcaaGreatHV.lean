/-
Package commit: the map from points to outcomes. Package commit: the map of known outcomes. Package commit: the search in memory, bit, choice. Package commit: choice. No statement of the seat is proved here; no conditions beyond those of each theorem.
-/
import Derived.Test.YtdoeejcmaeefcaaGreatJCw7
import Derived.DeepKeys3
import Derived.Maps.AppendAt
import Derived.MapFrom
namespace Go.Proofs.YtdoeejcmaeefcaaGreat
set_option linter.unusedVariables false
set_option linter.unusedSimpArgs false
open Go.RowKit
open Wd
open Cm

/-- A point: an hour and the units' states. -/
def ptC (h : Int) (ss : List Int) : Array Value := #[.int .i64 h, .int .i64 (ss[0]?.getD 0), .int .i64 (ss[1]?.getD 0), .int .i64 (ss[2]?.getD 0), .int .i64 (ss[3]?.getD 0), .int .i64 (ss[4]?.getD 0)]
def ptV (h : Int) (ss : List Int) : Value := .agg (ptC h ss)
theorem ptV_inj {h h' : Int} {ss ss' : List Int} {n : Nat} (hn : n ≤ 5) (h1 : ss.length = n) (h2 : ss'.length = n) (e : ptV h ss = ptV h' ss') : h = h' ∧ ss = ss' := by
  unfold ptV ptC at e
  simp only [Value.agg.injEq, Array.mk.injEq, List.cons.injEq, Value.int.injEq, true_and, and_true] at e
  obtain ⟨e0, e1, e2, e3, e4, e5⟩ := e
  refine ⟨e0, ?_⟩
  apply List.ext_getElem (by omega)
  intro i g1 g2
  have key : ss[i]?.getD 0 = ss'[i]?.getD 0 := by
    match i, g1 with
    | 0, _ => exact e1
    | 1, _ => exact e2
    | 2, _ => exact e3
    | 3, _ => exact e4
    | 4, _ => exact e5
    | i + 5, g => omega
  rw [List.getElem?_eq_getElem g1, List.getElem?_eq_getElem g2] at key
  exact key
theorem pt_law : WideMaps.KeyLaw Tryz.prog 71 := deep_law (m := 3) (by omega) (by kernel_rfl) (by kernel_rfl) (by kernel_rfl)
theorem und_int : Tryz.prog.underlying 3 = some (.int .i64) := by kernel_rfl
theorem und_arr : Tryz.prog.underlying 69 = some (.array 5 3) := by kernel_rfl
theorem und_pt0 : (Tryz.prog.underlying 71).map (fun d => match d with | .struct fs => some (fs.toList.map fun f => (f.name, f.type, f.offset)) | _ => none) = some (some [("hour", 3, 0), ("states", 69, 1)]) := by kernel_rfl
theorem und_pt : ∃ (fs : Array Field) (f g : Field), Tryz.prog.underlying 71 = some (.struct fs) ∧ fs.toList = [f, g] ∧ (f.name = "hour" ∧ f.type = 3 ∧ f.offset = 0) ∧ g.name = "states" ∧ g.type = 69 ∧ g.offset = 1 := by
  have h := und_pt0
  cases e : Tryz.prog.underlying 71 with
  | none => rw [e] at h; simp at h
  | some d =>
    rw [e] at h
    cases d <;> simp at h
    rename_i fs
    refine ⟨fs, ?_⟩
    generalize fs.toList = l at *
    have hlen : l.length = 2 := by
      have := congrArg List.length h
      simpa using this
    obtain ⟨f, g, rfl⟩ : ∃ f g, l = [f, g] := by
      cases l with
      | nil => simp at hlen
      | cons f l =>
        cases l with
        | nil => simp at hlen
        | cons g l =>
          cases l with
          | nil => exact ⟨f, g, rfl⟩
          | cons x l => simp at hlen
    simp at h
    exact ⟨f, g, rfl, rfl, ⟨h.1.1, h.1.2.1, h.1.2.2⟩, h.2.1, h.2.2.1, h.2.2.2⟩
theorem cells_int : Tryz.prog.cellsOf 3 = 1 := by kernel_rfl
theorem cells_arr : Tryz.prog.cellsOf 69 = 5 := by kernel_rfl
theorem cells_pt : Tryz.prog.cellsOf 71 = 6 := by kernel_rfl
def Wf (n : Int) : Prop := (Lit.int .i64 n).wf = true
theorem lits_int {d : Nat} {n : Int} (h : Wf n) : Tryz.prog.keyLits (d + 1) 3 [.int .i64 n] = some [.int .i64 n] := by
  unfold Wf at h
  simp [Program.keyLits, und_int, h]
theorem lits_arr {d : Nat} {a b c e f : Int} (ha : Wf a) (hb : Wf b) (hc : Wf c) (he : Wf e) (hf : Wf f) : Tryz.prog.keyLits (d + 2) 69 [.int .i64 a, .int .i64 b, .int .i64 c, .int .i64 e, .int .i64 f] = some [.int .i64 a, .int .i64 b, .int .i64 c, .int .i64 e, .int .i64 f] := by
  unfold Program.keyLits
  simp only [und_arr]
  simp [cells_arr, cells_int, List.range_succ, lits_int, ha, hb, hc, he, hf]
theorem pt_key {h : Int} {ss : List Int} (hh : Wf h) (hs : ∀ i : Nat, Wf (ss[i]?.getD 0)) : ∃ l, keyOf Tryz.prog 71 (ptV h ss) = some l := by
  obtain ⟨fs, f, g, e1, e2, ⟨f1, f2, f3⟩, g1, g2, g3⟩ := und_pt
  have hk : Tryz.prog.keyType 71 = true := by kernel_rfl
  have hsz : Tryz.prog.types.size = (Tryz.prog.types.size - 2) + 2 := by
    have : 2 ≤ Tryz.prog.types.size := of_decide_eq_true (by kernel_rfl)
    omega
  have hfm : (ptV h ss).formed Tryz.prog 71 = true := by
    unfold ptV Value.formed
    simp [e1, cells_pt, ptC]
  have hl : ∃ L, Tryz.prog.keyLits (Tryz.prog.types.size + 1) 71 (ptV h ss).cells.toList = some L := by
    rw [hsz]
    generalize Tryz.prog.types.size - 2 = d
    have ec : (ptV h ss).cells.toList = [.int .i64 h, .int .i64 (ss[0]?.getD 0), .int .i64 (ss[1]?.getD 0), .int .i64 (ss[2]?.getD 0), .int .i64 (ss[3]?.getD 0), .int .i64 (ss[4]?.getD 0)] := rfl
    rw [ec]
    unfold Program.keyLits
    simp only [e1]
    have en : (fs.all fun x => x.name != "_") = true := by
      rw [← Array.all_toList, e2]
      simp [f1, g1]
    simp only [cells_pt, List.length_cons, List.length_nil, en, e2]
    rw [if_pos ⟨trivial, trivial⟩]
    have p1 : Tryz.prog.keyLits (d + 2) f.type (([.int .i64 h, .int .i64 (ss[0]?.getD 0), .int .i64 (ss[1]?.getD 0), .int .i64 (ss[2]?.getD 0), .int .i64 (ss[3]?.getD 0), .int .i64 (ss[4]?.getD 0)].drop f.offset).take (Tryz.prog.cellsOf f.type)) = some [.int .i64 h] := by
      rw [f2, f3, cells_int]
      exact lits_int hh
    have p2 : Tryz.prog.keyLits (d + 2) g.type (([.int .i64 h, .int .i64 (ss[0]?.getD 0), .int .i64 (ss[1]?.getD 0), .int .i64 (ss[2]?.getD 0), .int .i64 (ss[3]?.getD 0), .int .i64 (ss[4]?.getD 0)].drop g.offset).take (Tryz.prog.cellsOf g.type)) = some [.int .i64 (ss[0]?.getD 0), .int .i64 (ss[1]?.getD 0), .int .i64 (ss[2]?.getD 0), .int .i64 (ss[3]?.getD 0), .int .i64 (ss[4]?.getD 0)] := by
      rw [g2, g3, cells_arr]
      exact lits_arr (hs 0) (hs 1) (hs 2) (hs 3) (hs 4)
    simp only [List.mapM_cons, List.mapM_nil, p1, p2]
    exact ⟨_, rfl⟩
  obtain ⟨L, hL⟩ := hl
  unfold keyOf
  rw [e1]
  simp only [hk, hfm, hL]
  exact ⟨_, rfl⟩

end Go.Proofs.YtdoeejcmaeefcaaGreat

namespace Go.Proofs.YtdoeejcmaeefcaaGreat
set_option linter.unusedVariables false
set_option linter.unusedSimpArgs false
open Go.RowKit
open Wd
open Cm

theorem und_map : Tryz.prog.underlying 90 = some (.map 71 73) := by kernel_rfl
/-- An outcome as a value. -/
def outV (o : Option (Nat × Int)) : Value := .agg #[.bool o.isSome, .int .i64 (((o.getD (0, 0)).1 : Nat) : Int), .int .i64 (o.getD (0, 0)).2]
theorem zero_out (w : World) : (zeroValue 73).run Tryz.prog w = .ok (outV none) w := by kernel_rfl
/-- Small states. -/
def PtOk (n : Nat) (ss : List Int) : Prop := ss.length = n ∧ ∀ s ∈ ss, -6 ≤ s ∧ s ≤ 6
theorem wf_small {x : Int} (h1 : -1000000 ≤ x) (h2 : x ≤ 1000000) : Wf x := by
  unfold Wf Lit.wf
  simp [IntKind.min, IntKind.max, IntKind.signed, IntKind.bits]
  omega
theorem PtOk.wf {n : Nat} {ss : List Int} (h : PtOk n ss) (i : Nat) : Wf (ss[i]?.getD 0) := by
  by_cases hi : i < ss.length
  · have := h.2 _ (gmem (d := 0) hi)
    exact wf_small (by omega) (by omega)
  · rw [List.getElem?_eq_none (by omega)]
    exact wf_small (by decide) (by decide)
/-- What the map knows is right. -/
def KnR (V : Nat → List Int → Option (Nat × Int)) (n : Nat) (w : World) (mb : Nat) : Prop :=
  ∃ (es : Array MapEntry) (clock : Nat), w.heap[mb]? = some (.map es clock) ∧ ∀ e ∈ es.toList, ∃ (h : Nat) (ss : List Int), h ≤ 1000 ∧ PtOk n ss ∧ e.key = ptV h ss ∧ e.val = outV (V h ss)
theorem KnR.lt {V : Nat → List Int → Option (Nat × Int)} {n : Nat} {w : World} {mb : Nat} (h : KnR V n w mb) : mb < w.heap.size := by
  obtain ⟨es, c, h1, _⟩ := h
  exact (Array.getElem?_eq_some_iff.1 h1).1
theorem KnR.keep {V : Nat → List Int → Option (Nat × Int)} {n : Nat} {w w' : World} {mb : Nat} (h : KnR V n w mb) (hb : w'.heap[mb]? = w.heap[mb]?) : KnR V n w' mb := by
  obtain ⟨es, c, h1, h2⟩ := h
  exact ⟨es, c, hb.trans h1, h2⟩
theorem KnR.look {V : Nat → List Int → Option (Nat × Int)} {n : Nat} {w : World} {mb h : Nat} {ss : List Int} (hn : n ≤ 5) (hk : KnR V n w mb) (hh : h ≤ 1000) (hs : PtOk n ss) :
    (Instr.lookup 90 (.map (some mb)) (ptV h ss) true).run Tryz.prog w = .ok (.tuple #[outV (V h ss), .bool true]) w ∨ (Instr.lookup 90 (.map (some mb)) (ptV h ss) true).run Tryz.prog w = .ok (.tuple #[outV none, .bool false]) w := by
  obtain ⟨es, clock, hb, he⟩ := hk
  obtain ⟨l, hl⟩ := pt_key (wf_small (x := (h : Int)) (by omega) (by omega)) hs.wf
  have hc := fun em => pt_law.check w em hl
  rcases pt_law.find w hl es.toList (fun e hem => by
    obtain ⟨h', ss', g1, g2, g3, _⟩ := he e hem
    rw [g3]
    exact pt_key (wf_small (by omega) (by omega)) g2.wf) with ⟨hf, _⟩ | ⟨j, e, hf, hj, hke⟩
  · right
    simp [Instr.lookup, run_underlying und_map, MapKept.run_getObj_map hb, hc, hf, zero_out, Result.andThen]
    rfl
  · left
    have hem : e ∈ es.toList := by
      obtain ⟨hj1, rfl⟩ := List.getElem?_eq_some_iff.1 hj
      exact List.getElem_mem hj1
    obtain ⟨h', ss', g1, g2, g3, g4⟩ := he e hem
    obtain ⟨e1, e2⟩ := ptV_inj hn g2.1 hs.1 (g3.symm.trans hke)
    have e3 : h' = h := by omega
    rw [e2, e3] at g4
    simp [Instr.lookup, run_underlying und_map, MapKept.run_getObj_map hb, hc, hf, g4, Result.andThen]
theorem setB_heap {w : World} {r : Nat} (hr : r < w.heap.size) (o : Obj) : ({ w with heap := w.heap.setIfInBounds r o } : World).heap[r]? = some o ∧ ∀ k, k ≠ r → ({ w with heap := w.heap.setIfInBounds r o } : World).heap[k]? = w.heap[k]? := by
  refine ⟨by simp [hr], fun k hk => ?_⟩
  simp [Array.getElem?_setIfInBounds, Ne.symm hk]
theorem KnR.put {V : Nat → List Int → Option (Nat × Int)} {n : Nat} {w : World} {mb h : Nat} {ss : List Int} (hn : n ≤ 5) (hk : KnR V n w mb) (hh : h ≤ 1000) (hs : PtOk n ss) :
    ∃ w', (Instr.mapUpdate 90 (.map (some mb)) (ptV h ss) (outV (V h ss))).run Tryz.prog w = .ok () w' ∧ KnR V n w' mb ∧ w'.os = w.os ∧ w'.tape = w.tape ∧ w'.output = w.output ∧ w'.heap.size = w.heap.size ∧ ∀ k, k ≠ mb → w'.heap[k]? = w.heap[k]? := by
  have hlt := hk.lt
  obtain ⟨es, clock, hb, he⟩ := hk
  obtain ⟨l, hl⟩ := pt_key (wf_small (x := (h : Int)) (by omega) (by omega)) hs.wf
  have hc := fun em => pt_law.check w em hl
  rcases pt_law.find w hl es.toList (fun e hem => by
    obtain ⟨h', ss', g1, g2, g3, _⟩ := he e hem
    rw [g3]
    exact pt_key (wf_small (by omega) (by omega)) g2.wf) with ⟨hf, _⟩ | ⟨j, e, hf, hj, hke⟩
  · refine ⟨_, by simp [Instr.mapUpdate, run_underlying und_map, MapKept.run_getObj_map hb, hc, hf, MapKept.run_setObj_map _ hb, Result.andThen]; rfl, ?_⟩
    refine ⟨⟨_, _, (setB_heap hlt _).1, fun e hem => ?_⟩, rfl, rfl, rfl, by simp, fun k hk => (setB_heap hlt _).2 k hk⟩
    rw [Array.toList_push] at hem
    rcases List.mem_append.1 hem with hem | hem
    · exact he e hem
    · simp at hem
      subst hem
      exact ⟨h, ss, hh, hs, rfl, rfl⟩
  · have hst := pt_law.stays w hl
    have hje : es[j]? = some e := by rw [← hj]; simp
    refine ⟨_, by simp [Instr.mapUpdate, run_underlying und_map, MapKept.run_getObj_map hb, hc, hf, hje, hke, hst, MapKept.run_setObj_map _ hb, Result.andThen]; rfl, ?_⟩
    refine ⟨⟨_, _, (setB_heap hlt _).1, fun e' hem => ?_⟩, rfl, rfl, rfl, by simp, fun k hk => (setB_heap hlt _).2 k hk⟩
    rcases MapFrom.mem_modify hem with hem | ⟨e2, _, rfl⟩
    · exact he e' hem
    · exact ⟨h, ss, hh, hs, rfl, rfl⟩

end Go.Proofs.YtdoeejcmaeefcaaGreat

namespace Go.Proofs.YtdoeejcmaeefcaaGreat
set_option linter.unusedVariables false
set_option linter.unusedSimpArgs false
open Go.RowKit
open Wd
open Cm

/-- The energy costs of the hours by choice. -/
def SupAt (w : World) (A : Option Addr) (m N : Nat) (R : List Row) : Prop :=
  R.length = m ∧ (m ≠ 0 → ∃ b o, A = some ⟨b, o, none⟩ ∧ b < w.heap.size ∧ ∀ j, j < m → ∃ g cc, w.cell? ⟨b, o + j, none⟩ = some (.slice (some ⟨g, 0, none⟩) N cc) ∧ g < w.heap.size ∧ ∀ c, c < N → w.cell? ⟨g, c * 2, none⟩ = some (.bool ((R[j]?.getD [])[c]?.getD none).isSome) ∧ w.cell? ⟨g, c * 2 + 1, none⟩ = some (.int .i64 (((R[j]?.getD [])[c]?.getD none).getD 0)))
theorem SupAt.below {w w' : World} {A : Option Addr} {m N : Nat} {R : List Row} (h : SupAt w A m N R) (hb : Below w.heap.size w w') : SupAt w' A m N R := by
  refine ⟨h.1, fun hn => ?_⟩
  obtain ⟨b, o, rfl, hlt, hc⟩ := h.2 hn
  refine ⟨b, o, rfl, Nat.lt_of_lt_of_le hlt hb.size, fun j hj => ?_⟩
  obtain ⟨g, cc, h1, h2, h3⟩ := hc j hj
  exact ⟨g, cc, (hb.cell (p := ⟨b, _, none⟩) hlt).trans h1, Nat.lt_of_lt_of_le h2 hb.size, fun c hcc => ⟨(hb.cell (p := ⟨g, _, none⟩) h2).trans (h3 c hcc).1, (hb.cell (p := ⟨g, _, none⟩) h2).trans (h3 c hcc).2⟩⟩
/-- The search: its cells. -/
structure SrC (us : List Un) (A : Option Addr) (n c m : Nat) (As : Option Addr) (ca mb : Nat) (cs : Array Value) : Prop where
  units : cs[0]? = some (.slice A n c)
  hours : cs[1]? = some (.int .i64 (m : Int))
  sup : cs[2]? = some (.slice As m ca)
  next : ∀ i, i < n → ∀ (s : Int) (b : Bool), StOk (us[i]?.getD U0) s → ∃ k : Nat, (k : Int) = s + 6 ∧ cs[3 + i * 52 + k * 4 + (if b then 1 else 0) * 2]? = some (.bool (unext (us[i]?.getD U0) s b).isSome) ∧ cs[3 + i * 52 + k * 4 + (if b then 1 else 0) * 2 + 1]? = some (.int .i64 ((unext (us[i]?.getD U0) s b).getD 0))
  known : cs[263]? = some (.map (some mb))
theorem bit_val {c i n : Nat} (hi : i < n) : (c >>> (n - 1 - i)) &&& 1 = if bitN n c i then 1 else 0 := by
  unfold bitN
  rw [Nat.testBit_eq_decide_div_mod_eq, Nat.shiftRight_eq_div_pow, Nat.and_one_is_mod]
  have := Nat.mod_two_eq_zero_or_one (c / 2 ^ (n - 1 - i))
  rcases this with h | h <;> simp [h]

theorem bits_one : ∀ x : Fin 64, Go.bits .and .i64 ((x.val : Nat) : Int) 1 = ((x.val % 2 : Nat) : Int) := by decide +kernel
theorem bits_bit {c i n : Nat} (hn : n ≤ 5) (hc : c < 2 ^ n) (hi : i < n) : Go.bits .and .i64 ((c : Int) / 2 ^ (n - 1 - i)) 1 = if bitN n c i then 1 else 0 := by
  have h1 : (c : Int) / 2 ^ (n - 1 - i) = ((c / 2 ^ (n - 1 - i) : Nat) : Int) := by push_cast; rfl
  have h2 : c / 2 ^ (n - 1 - i) < 64 := by
    have h3 : 2 ^ n ≤ 2 ^ 5 := Nat.pow_le_pow_right (by decide) hn
    exact Nat.lt_of_le_of_lt (Nat.div_le_self ..) (by omega)
  rw [h1, bits_one ⟨_, h2⟩]
  unfold bitN
  rw [Nat.testBit_eq_decide_div_mod_eq]
  have := Nat.mod_two_eq_zero_or_one (c / 2 ^ (n - 1 - i))
  rcases this with h | h <;> simp [h]

set_option maxRecDepth 100000 in
set_option maxHeartbeats 1000000 in
theorem bit_raw (gs : Nat) (A : Option Addr) (n cp : Nat) (c i : Nat) (w : World) (hc : w.cell? ⟨gs, 0, none⟩ = some (.slice A n cp)) (hi : i < n) (hn : n ≤ 5) (hcc : c < 2 ^ n) :
    Calls Tryz.prog 58 #[.pointer (some ⟨gs, 0, none⟩), .int .i64 (c : Int), .int .i64 (i : Int)] w fun e w' => e = .returned (.int .i64 (if bitN n c i then 1 else 0)) ∧ w = w' := by
  have w1 : IntKind.i64.wrap ((n : Int) - 1) = (n : Int) - 1 := IntWalk.i64_in _ (by omega)
  have w2 : IntKind.i64.wrap ((n : Int) - 1 - (i : Int)) = ((n - 1 - i : Nat) : Int) := by rw [IntWalk.i64_in _ (by omega)]; omega
  have hv := bits_bit hn hcc hi
  generalize (if bitN n c i = true then (1 : Int) else 0) = v at *
  clear hi hcc
  go_enter Tryz.func58, Tryz.ntmps58
  go_wp2
  go_ret
  exact ⟨by simp only [hv]; rfl, rfl⟩

end Go.Proofs.YtdoeejcmaeefcaaGreat

namespace Go.Proofs.YtdoeejcmaeefcaaGreat
set_option linter.unusedVariables false
set_option linter.unusedSimpArgs false
open Go.RowKit
open Wd
open Cm

set_option maxRecDepth 100000 in
set_option maxHeartbeats 4000000 in
theorem choice_raw (gs : Nat) (A : Option Addr) (n cp : Nat) (c : Nat) (w : World) (hc : w.cell? ⟨gs, 0, none⟩ = some (.slice A n cp)) (hg : gs < w.heap.size) (hn : n ≤ 5) (hcc : c < 2 ^ n) :
    Calls Tryz.prog 39 #[.pointer (some ⟨gs, 0, none⟩), .int .i64 (c : Int)] w fun e w' => ∃ g, e = .returned (.slice (some ⟨g, 0, none⟩) n n) ∧ BRow w' g (bitsN n c) ∧ w.heap.size ≤ g ∧ Below w.heap.size w w' := by
  have hmk := fun w => run_make_bools n (by omega) w
  have HC := Lib.hid hc
  have HCC := Lib.hid hcc
  clear hcc
  go_enter Tryz.func39, Tryz.ntmps39
  go_wp2_with fail
  have HST := Lib.hid (show Kp w (w.alloc (.cells (Array.replicate n (Value.bool false)) 4)) ∧ BRow (w.alloc (.cells (Array.replicate n (Value.bool false)) 4)) w.heap.size (List.replicate n false) from ⟨(Kp.refl w).alloc _, by
    have := Blk.new w 4 (Array.replicate n (Value.bool false))
    simpa [BRow] using this⟩)
  clear hc
  go_loopw [15] (fun t wr => ∃ (j : Nat) (xs : List Bool), j ≤ n ∧ t = .int .i64 j ∧ Hid (Kp w wr ∧ BRow wr w.heap.size xs ∧ xs.length = n ∧ ∀ i, i < j → xs[i]?.getD false = bitN n c i)) (fun t _ => n - (intOf t).toNat)
  case atStart => exact ⟨0, _, Nat.zero_le _, rfl, HST.out.1, HST.out.2, by simp, fun j hj => absurd hj (by omega)⟩
  case round =>
    clear HST
    obtain ⟨j, xs, hj, rfl, hR⟩ := hrel
    by_cases hlt : j < n
    · have hcl := (Below.cell hR.out.1 (p := ⟨gs, 0, none⟩) hg).trans HC.out
      have T := Lib.hid (bit_raw gs A n cp c j wr hcl hlt hn HCC.out)
      have z0 := hR.out.2.1.cell (i := j) (by rw [hR.out.2.2.1]; exact hlt)
      have z1 := Blk.frozen hR.out.2.1 j
      have HN := Lib.hid (show Kp w (wr.setCell ⟨w.heap.size, j, none⟩ (.bool (bitN n c j))) ∧ BRow (wr.setCell ⟨w.heap.size, j, none⟩ (.bool (bitN n c j))) w.heap.size (xs.set j (bitN n c j)) ∧ (xs.set j (bitN n c j)).length = n ∧ ∀ i, i < j + 1 → (xs.set j (bitN n c j))[i]?.getD false = bitN n c i by
        refine ⟨Kp.set hR.out.1 (p := ⟨w.heap.size, j, none⟩) (Nat.le_refl _) _, hR.out.2.1.set j _, by rw [List.length_set]; exact hR.out.2.2.1, fun i hi => ?_⟩
        rw [List.getElem?_set]
        split
        · rename_i he
          subst he
          rw [if_pos (by rw [hR.out.2.2.1]; exact hlt)]
          rfl
        · exact hR.out.2.2.2 i (by omega))
      have i1 : (0 : Int) ≤ (j : Int) := by omega
      have i2 : (j : Int) < (n : Int) := by omega
      have hcb : ((if bitN n c j = true then (1 : Int) else 0) == 1) = bitN n c j := by cases bitN n c j <;> rfl
      generalize (if bitN n c j = true then (1 : Int) else 0) = v at *
      generalize bitN n c j = bb at *
      clear hR hcl
      go_wp2_with fail
      refine T.out.mono ?_
      rintro e w3 ⟨rfl, rfl⟩
      clear T
      go_wp2
      go_roundw
      case rel => exact ⟨j + 1, _, by omega, by go_num, by first | exact HN.out | (simp only [hcb]; exact HN.out)⟩
      case measure => simp [intOf]; omega
    · obtain rfl : n = j := by omega
      have hxs : xs = bitsN n c := ext_b (by rw [hR.out.2.2.1, bitsN_len]) fun i hi => by
        rw [hR.out.2.2.1] at hi
        rw [hR.out.2.2.2 i hi, bitsN_get hi]
      have HF := Lib.hid (show BRow wr w.heap.size (bitsN n c) ∧ Below w.heap.size w wr from ⟨hxs ▸ hR.out.2.1, hR.out.1⟩)
      clear hR hxs
      go_wp2
      go_ret
      exact ⟨w.heap.size, rfl, HF.out.1, Nat.le_refl _, HF.out.2⟩

end Go.Proofs.YtdoeejcmaeefcaaGreat
