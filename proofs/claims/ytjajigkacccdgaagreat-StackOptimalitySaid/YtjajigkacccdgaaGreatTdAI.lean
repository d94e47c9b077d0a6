/-
Contracts of the table of operations and of its three functions '+', '-' and '*' of package frac. No statement of the seat is proved here; no conditions beyond those of each theorem.
-/
import Derived.Test.YtjajigkacccdgaaGreatTdAH
namespace Go.Proofs.YtjajigkacccdgaaGreat
set_option linter.unusedVariables false
set_option linter.unusedSimpArgs false
open Go.RowKit
open Wd

/-- The entries of the table. -/
def opEntries : Array MapEntry := #[⟨.int .u8 43, .agg #[.func (.func 190) #[] #[]], 0⟩, ⟨.int .u8 45, .agg #[.func (.func 192) #[] #[]], 1⟩,
 ⟨.int .u8 42, .agg #[.func (.func 194) #[] #[]], 2⟩, ⟨.int .u8 47, .agg #[.func (.func 195) #[] #[]], 3⟩]

theorem set_push (a : Array Obj) (x y : Obj) : (a.push x).setIfInBounds a.size y = a.push y := by
 apply Array.ext_getElem?
 intro i
 rw [Array.getElem?_setIfInBounds, Array.getElem?_push, Array.getElem?_push]
 by_cases h : a.size = i
 ·subst h; simp
 ·rw [if_neg h, if_neg (by omega), if_neg (by omega)]

theorem run_ins_new (w : World) (es : Array MapEntry) (clock : Nat) (k : Int) (v : Value) (hf : Instr.findNow (.int .u8) (.int .u8 k) es.toList 0 = some none) :
  (Instr.mapUpdate 172 (.map (some w.heap.size)) (.int .u8 k) v).run Tryz.prog (w.alloc (.map es clock)) = .ok () (w.alloc (.map (es.push ⟨.int .u8 k, v, clock⟩) (clock + 1))) := by
 have hg : (w.alloc (.map es clock)).heap[w.heap.size]? = some (.map es clock) := heap_alloc_new w _
 have hc : (Instr.checkKey false 10000 5 (.int .u8 k)).run Tryz.prog (w.alloc (.map es clock)) = .ok () (w.alloc (.map es clock)) := MapKept.run_checkKey (k := .int .u8 k) Tryz.underlying5 (by simp [MapKept.IsKey]) false 9999
 have he : ({ (w.alloc (.map es clock)) with heap := (w.alloc (.map es clock)).heap.setIfInBounds w.heap.size (.map (es.push ⟨.int .u8 k, v, clock⟩) (clock + 1)) } : World) = w.alloc (.map (es.push ⟨.int .u8 k, v, clock⟩) (clock + 1)) := by
  show ({ w with heap := (w.heap.push (.map es clock)).setIfInBounds w.heap.size (.map (es.push ⟨.int .u8 k, v, clock⟩) (clock + 1)) } : World) = { w with heap := w.heap.push (.map (es.push ⟨.int .u8 k, v, clock⟩) (clock + 1)) }
  rw [set_push]
 simp [Instr.mapUpdate, run_underlying Tryz.underlying172, MapKept.run_getObj_map hg, hc, MapKept.run_findKey Tryz.underlying5 hf, MapKept.run_setObj_map _ hg, Result.andThen]
 exact he

theorem look_any (w : World) (g : Nat) (k : Int) (i : Nat) (v : Value) (hw : w.heap[g]? = some (.map opEntries 4)) (hf : Instr.findNow (.int .u8) (.int .u8 k) opEntries.toList 0 = some (some (i, v))) :
  (Instr.lookup 172 (.map (some g)) (.int .u8 k) false).run Tryz.prog w = .ok v w := by
 have hc : (Instr.checkKey opEntries.isEmpty 10000 5 (.int .u8 k)).run Tryz.prog w = .ok () w := MapKept.run_checkKey (k := .int .u8 k) Tryz.underlying5 (by simp [MapKept.IsKey]) _ 9999
 simp [Instr.lookup, run_underlying Tryz.underlying172, MapKept.run_getObj_map hw, hc, MapKept.run_findKey Tryz.underlying5 hf, Result.andThen]

theorem look_add (w : World) (g : Nat) (hw : w.heap[g]? = some (.map opEntries 4)) :
  (Instr.lookup 172 (.map (some g)) (.int .u8 43) false).run Tryz.prog w = .ok (.agg #[.func (.func 190) #[] #[]]) w := look_any w g 43 0 _ hw rfl
theorem look_sub (w : World) (g : Nat) (hw : w.heap[g]? = some (.map opEntries 4)) :
  (Instr.lookup 172 (.map (some g)) (.int .u8 45) false).run Tryz.prog w = .ok (.agg #[.func (.func 192) #[] #[]]) w := look_any w g 45 1 _ hw rfl
theorem look_mul (w : World) (g : Nat) (hw : w.heap[g]? = some (.map opEntries 4)) :
  (Instr.lookup 172 (.map (some g)) (.int .u8 42) false).run Tryz.prog w = .ok (.agg #[.func (.func 194) #[] #[]]) w := look_any w g 42 2 _ hw rfl

set_option maxHeartbeats 1000000 in
theorem operations_any (w : World) : Calls Tryz.prog 139 #[] w fun e w' => e = .returned (.map (some w.heap.size)) ∧ w'.heap[w.heap.size]? = some (.map opEntries 4) ∧ Below w.heap.size w w' := by
 have hmm := @run_makeMap Tryz.prog
 have h1 := fun w => run_ins_new w #[] 0 43 (.agg #[.func (.func 190) #[] #[]]) rfl
 have h2 := fun w => run_ins_new w #[⟨.int .u8 43, .agg #[.func (.func 190) #[] #[]], 0⟩] 1 45 (.agg #[.func (.func 192) #[] #[]]) rfl
 have h3 := fun w => run_ins_new w #[⟨.int .u8 43, .agg #[.func (.func 190) #[] #[]], 0⟩, ⟨.int .u8 45, .agg #[.func (.func 192) #[] #[]], 1⟩] 2 42 (.agg #[.func (.func 194) #[] #[]]) rfl
 have h4 := fun w => run_ins_new w #[⟨.int .u8 43, .agg #[.func (.func 190) #[] #[]], 0⟩, ⟨.int .u8 45, .agg #[.func (.func 192) #[] #[]], 1⟩, ⟨.int .u8 42, .agg #[.func (.func 194) #[] #[]], 2⟩] 3 47 (.agg #[.func (.func 195) #[] #[]]) rfl
 simp only [List.push_toArray, List.nil_append, List.cons_append, Nat.zero_add, Nat.reduceAdd] at h1 h2 h3 h4
 go_enter Tryz.func139, Tryz.ntmps139
 go_wp2
 go_ret
 exact ⟨rfl, heap_alloc_new w _, (Below.refl _ _).alloc (Nat.le_refl _) _⟩

theorem field_op (f : Value) (w : World) : (Instr.field 171 (.agg #[f]) 0).run Tryz.prog w = .ok f w := by kernel_rfl

/-- Two canonical integers in new memory. -/
def RetZZ (w : World) (z z' : Int) (e : Ending) (w' : World) : Prop :=
 ∃ A k c A' k' c', e = .returned (.tuple #[.agg #[.bool (decide (z < 0)), .slice A k c], .agg #[.bool (decide (z' < 0)), .slice A' k' c']]) ∧ k ≤ c ∧ k' ≤ c' ∧ Wat w' A k (digs z.natAbs) ∧ Wat w' A' k' (digs z'.natAbs) ∧ Below w.heap.size w w'

/-- An integer operand in memory. -/
def ZIn (w : World) (neg : Bool) (A : Option Addr) (n c : Nat) (l : List Nat) (z : Int) : Prop := Wat w A n l ∧ n ≤ c ∧ n ≤ 10000000000 ∧ sg neg (val l) = z
theorem ZIn.below {w w' : World} {neg : Bool} {A : Option Addr} {n c : Nat} {l : List Nat} {z : Int} (h : ZIn w neg A n c l z) (hb : Below w.heap.size w w') : ZIn w' neg A n c l z := ⟨h.1.below hb, h.2⟩
theorem ZIn.abs {w : World} {neg : Bool} {A : Option Addr} {n c : Nat} {l : List Nat} {z : Int} (h : ZIn w neg A n c l z) : val l = z.natAbs := by rw [← h.2.2.2, sg_natAbs]

theorem mul_in {w : World} {m1 m2 : Bool} {B1 B2 : Option Addr} {j1 d1 j2 d2 : Nat} {r1 r2 : List Nat} {z1 z2 : Int} (h1 : ZIn w m1 B1 j1 d1 r1 z1) (h2 : ZIn w m2 B2 j2 d2 r2 z2) :
  Calls Tryz.prog 97 #[.agg #[.bool m1, .slice B1 j1 d1], .agg #[.bool m2, .slice B2 j2 d2]] w (RetZ w (z1 * z2)) := by
 have := mul_any m1 m2 B1 B2 j1 j2 d1 d2 r1 r2 w h1.1 h2.1 h1.2.1 h2.2.1 (by have := h1.2.2.1; omega) (by have := h2.2.2.1; omega)
 rwa [h1.2.2.2, h2.2.2.2] at this
theorem add_in {M : Nat} (HO : WOK M) {w : World} {z1 z2 : Int} {B1 B2 : Option Addr} {j1 d1 j2 d2 : Nat} (h1 : Wat w B1 j1 (digs z1.natAbs)) (hd1 : j1 ≤ d1) (h2 : Wat w B2 j2 (digs z2.natAbs)) (hd2 : j2 ≤ d2) (hz1 : z1.natAbs < M) (hz2 : z2.natAbs < M) :
  Calls Tryz.prog 191 #[.agg #[.bool (decide (z1 < 0)), .slice B1 j1 d1], .agg #[.bool (decide (z2 < 0)), .slice B2 j2 d2]] w (RetZ w (z1 + z2)) := by
 have := HO.add (decide (z1 < 0)) (decide (z2 < 0)) B1 B2 j1 j2 d1 d2 _ _ w h1 h2 hd1 hd2 (by rw [← h1.1]; exact HO.len _ hz1) (by rw [← h2.1]; exact HO.len _ hz2) (by rw [val_digs]; exact hz1) (by rw [val_digs]; exact hz2)
 rwa [val_digs, val_digs, sg_self, sg_self] at this
theorem sub_in {M : Nat} (HO : WOK M) {w : World} {z1 z2 : Int} {B1 B2 : Option Addr} {j1 d1 j2 d2 : Nat} (h1 : Wat w B1 j1 (digs z1.natAbs)) (hd1 : j1 ≤ d1) (h2 : Wat w B2 j2 (digs z2.natAbs)) (hd2 : j2 ≤ d2) (hz1 : z1.natAbs < M) (hz2 : z2.natAbs < M) :
  Calls Tryz.prog 193 #[.agg #[.bool (decide (z1 < 0)), .slice B1 j1 d1], .agg #[.bool (decide (z2 < 0)), .slice B2 j2 d2]] w (RetZ w (z1 - z2)) := by
 have := HO.sub (decide (z1 < 0)) (decide (z2 < 0)) B1 B2 j1 j2 d1 d2 _ _ w h1 h2 hd1 hd2 (by rw [← h1.1]; exact HO.len _ hz1) (by rw [← h2.1]; exact HO.len _ hz2) (by rw [val_digs]; exact hz1) (by rw [val_digs]; exact hz2)
 rwa [val_digs, val_digs, sg_self, sg_self] at this


set_option maxRecDepth 100000 in
set_option maxHeartbeats 4000000 in
theorem op_add (M : Nat) (HO : WOK M) (m1 m2 m3 m4 : Bool) (B1 B2 B3 B4 : Option Addr) (j1 j2 j3 j4 d1 d2 d3 d4 : Nat) (r1 r2 r3 r4 : List Nat) (z1 z2 z3 z4 : Int) (w : World)
  (h1 : ZIn w m1 B1 j1 d1 r1 z1) (h2 : ZIn w m2 B2 j2 d2 r2 z2) (h3 : ZIn w m3 B3 j3 d3 r3 z3) (h4 : ZIn w m4 B4 j4 d4 r4 z4) (hb1 : (z1 * z4).natAbs < M) (hb2 : (z3 * z2).natAbs < M) :
  Calls Tryz.prog 190 #[.agg #[.bool m1, .slice B1 j1 d1], .agg #[.bool m2, .slice B2 j2 d2], .agg #[.bool m3, .slice B3 j3 d3], .agg #[.bool m4, .slice B4 j4 d4]] w (RetZZ w (z1 * z4 + z3 * z2) (z2 * z4)) := by
 have hk : ∀ w', Below w.heap.size w w' → ZIn w' m1 B1 j1 d1 r1 z1 ∧ ZIn w' m2 B2 j2 d2 r2 z2 ∧ ZIn w' m3 B3 j3 d3 r3 z3 ∧ ZIn w' m4 B4 j4 d4 r4 z4 := fun w' hb => ⟨h1.below hb, h2.below hb, h3.below hb, h4.below hb⟩
 have M1 := fun w' (hb : Below w.heap.size w w') => mul_in (hk w' hb).1 (hk w' hb).2.2.2
 have M2 := fun w' (hb : Below w.heap.size w w') => mul_in (hk w' hb).2.2.1 (hk w' hb).2.1
 have M3 := fun w' (hb : Below w.heap.size w w') => mul_in (hk w' hb).2.1 (hk w' hb).2.2.2
 have M4 := fun w' (X X' : Option Addr) (u u' v v' : Nat) (hx : Wat w' X u (digs (z1 * z4).natAbs)) (huv : u ≤ v) (hx' : Wat w' X' u' (digs (z3 * z2).natAbs)) (huv' : u' ≤ v') => add_in HO hx huv hx' huv' hb1 hb2
 generalize z1 * z4 = x1 at *
 generalize z3 * z2 = x2 at *
 generalize z2 * z4 = x3 at *
 generalize x1 + x2 = x4 at *
 have M4 := Lib.hid M4
 have M1 := Lib.hid M1
 have M2 := Lib.hid M2
 have M3 := Lib.hid M3
 clear hk h1 h2 h3 h4 hb1 hb2
 go_enter Tryz.func190, Tryz.ntmps190
 go_wp2_with fail
 have hB0 := (((((Blk.new w 40 #[.bool m1, .slice B1 j1 d1]).alloc (.cells #[.bool m2, .slice B2 j2 d2] 40)).alloc (.cells #[.bool m3, .slice B3 j3 d3] 40)).alloc (.cells #[.bool m4, .slice B4 j4 d4] 40)).alloc (.cells #[.bool false, .slice none 0 0] 40)).alloc (.cells #[.bool false, .slice none 0 0] 40)
 have hB1 := ((((Blk.new1 w (.cells #[.bool m1, .slice B1 j1 d1] 40) 40 #[.bool m2, .slice B2 j2 d2]).alloc (.cells #[.bool m3, .slice B3 j3 d3] 40)).alloc (.cells #[.bool m4, .slice B4 j4 d4] 40)).alloc (.cells #[.bool false, .slice none 0 0] 40)).alloc (.cells #[.bool false, .slice none 0 0] 40)
 have hB2 := (((Blk.new2 w (.cells #[.bool m1, .slice B1 j1 d1] 40) (.cells #[.bool m2, .slice B2 j2 d2] 40) 40 #[.bool m3, .slice B3 j3 d3]).alloc (.cells #[.bool m4, .slice B4 j4 d4] 40)).alloc (.cells #[.bool false, .slice none 0 0] 40)).alloc (.cells #[.bool false, .slice none 0 0] 40)
 have hB3 := ((Blk.new3 w (.cells #[.bool m1, .slice B1 j1 d1] 40) (.cells #[.bool m2, .slice B2 j2 d2] 40) (.cells #[.bool m3, .slice B3 j3 d3] 40) 40 #[.bool m4, .slice B4 j4 d4]).alloc (.cells #[.bool false, .slice none 0 0] 40)).alloc (.cells #[.bool false, .slice none 0 0] 40)
 have hB4 := (Blk.new4 w (.cells #[.bool m1, .slice B1 j1 d1] 40) (.cells #[.bool m2, .slice B2 j2 d2] 40) (.cells #[.bool m3, .slice B3 j3 d3] 40) (.cells #[.bool m4, .slice B4 j4 d4] 40) 40 #[.bool false, .slice none 0 0]).alloc (.cells #[.bool false, .slice none 0 0] 40)
 have hB5 := Blk.new5 w (.cells #[.bool m1, .slice B1 j1 d1] 40) (.cells #[.bool m2, .slice B2 j2 d2] 40) (.cells #[.bool m3, .slice B3 j3 d3] 40) (.cells #[.bool m4, .slice B4 j4 d4] 40) (.cells #[.bool false, .slice none 0 0] 40) 40 #[.bool false, .slice none 0 0]
 have hBW : Below w.heap.size w ((((((w.alloc (.cells #[.bool m1, .slice B1 j1 d1] 40)).alloc (.cells #[.bool m2, .slice B2 j2 d2] 40)).alloc (.cells #[.bool m3, .slice B3 j3 d3] 40)).alloc (.cells #[.bool m4, .slice B4 j4 d4] 40)).alloc (.cells #[.bool false, .slice none 0 0] 40)).alloc (.cells #[.bool false, .slice none 0 0] 40)) := ((((((Below.refl _ _).alloc (Nat.le_refl _) _).alloc (by simp only [World.size_alloc]; omega) _).alloc (by simp only [World.size_alloc]; omega) _).alloc (by simp only [World.size_alloc]; omega) _).alloc (by simp only [World.size_alloc]; omega) _).alloc (by simp only [World.size_alloc]; omega) _
 have hsz : ((((((w.alloc (.cells #[.bool m1, .slice B1 j1 d1] 40)).alloc (.cells #[.bool m2, .slice B2 j2 d2] 40)).alloc (.cells #[.bool m3, .slice B3 j3 d3] 40)).alloc (.cells #[.bool m4, .slice B4 j4 d4] 40)).alloc (.cells #[.bool false, .slice none 0 0] 40)).alloc (.cells #[.bool false, .slice none 0 0] 40)).heap.size = w.heap.size + 1 + 1 + 1 + 1 + 1 + 1 := by simp
 generalize (((((w.alloc (.cells #[.bool m1, .slice B1 j1 d1] 40)).alloc (.cells #[.bool m2, .slice B2 j2 d2] 40)).alloc (.cells #[.bool m3, .slice B3 j3 d3] 40)).alloc (.cells #[.bool m4, .slice B4 j4 d4] 40)).alloc (.cells #[.bool false, .slice none 0 0] 40)).alloc (.cells #[.bool false, .slice none 0 0] 40) = W at *
 have HSZ := Lib.hid hsz
 clear hsz
 have s4 := RZ.start hB4 hB5
 have hbw : ∀ w', RZ (w.heap.size + 1 + 1 + 1 + 1) 40 W w' → Below w.heap.size w w' := fun w' hk => hBW.trans (hk.1.mono (by omega))
 have HBW := Lib.hid hbw
 clear hbw
 have hS : ∀ w', RZ (w.heap.size + 1 + 1 + 1 + 1) 40 W w' → (w'.cell? ⟨w.heap.size, 0, none⟩ = some (.bool m1) ∧ w'.cell? ⟨w.heap.size, 1, none⟩ = some (.slice B1 j1 d1) ∧ w'.cell? ⟨w.heap.size + 1, 0, none⟩ = some (.bool m2) ∧ w'.cell? ⟨w.heap.size + 1, 1, none⟩ = some (.slice B2 j2 d2) ∧ w'.cell? ⟨w.heap.size + 1 + 1, 0, none⟩ = some (.bool m3) ∧ w'.cell? ⟨w.heap.size + 1 + 1, 1, none⟩ = some (.slice B3 j3 d3) ∧ w'.cell? ⟨w.heap.size + 1 + 1 + 1, 0, none⟩ = some (.bool m4) ∧ w'.cell? ⟨w.heap.size + 1 + 1 + 1, 1, none⟩ = some (.slice B4 j4 d4)) ∧ RZ (w.heap.size + 1 + 1 + 1 + 1) 40 W w' := fun w' hk => ⟨⟨(hk.blk hB0 (by omega)).cell 0, (hk.blk hB0 (by omega)).cell 1, (hk.blk hB1 (by omega)).cell 0, (hk.blk hB1 (by omega)).cell 1, (hk.blk hB2 (by omega)).cell 0, (hk.blk hB2 (by omega)).cell 1, (hk.blk hB3 (by omega)).cell 0, (hk.blk hB3 (by omega)).cell 1⟩, hk⟩
 have HS := Lib.hid hS
 clear hS
 clear hB4 hB5
 go_region_held3 (fun w' => (w'.cell? ⟨w.heap.size, 0, none⟩ = some (.bool m1) ∧ w'.cell? ⟨w.heap.size, 1, none⟩ = some (.slice B1 j1 d1) ∧ w'.cell? ⟨w.heap.size + 1, 0, none⟩ = some (.bool m2) ∧ w'.cell? ⟨w.heap.size + 1, 1, none⟩ = some (.slice B2 j2 d2) ∧ w'.cell? ⟨w.heap.size + 1 + 1, 0, none⟩ = some (.bool m3) ∧ w'.cell? ⟨w.heap.size + 1 + 1, 1, none⟩ = some (.slice B3 j3 d3) ∧ w'.cell? ⟨w.heap.size + 1 + 1 + 1, 0, none⟩ = some (.bool m4) ∧ w'.cell? ⟨w.heap.size + 1 + 1 + 1, 1, none⟩ = some (.slice B4 j4 d4)) ∧ RZ (w.heap.size + 1 + 1 + 1 + 1) 40 W w')
  (first | (with_reducible refine HS.out _ ?_; with_reducible assumption) | (with_reducible refine HS.out _ (RZ.drew ?_); with_reducible assumption) | (with_reducible refine' HS.out _ (RZ.drew (And.right ?_)); rotate_left; with_reducible assumption) | (with_reducible refine' HS.out _ (RZ.setA (And.right ?_) _ _); rotate_left; with_reducible assumption) | (with_reducible refine' HS.out _ (RZ.setB (And.right ?_) _ _); rotate_left; with_reducible assumption))
  (first
   | (go_at_call_of 97 (Value.agg #[.bool m1, .slice B1 j1 d1]); have hk := And.right ‹_ ∧ RZ (w.heap.size + 1 + 1 + 1 + 1) 40 W _›; refine (M1.out _ (HBW.out _ hk)).mono ?_; rintro e v1 ⟨X1, u1, y1, rfl, hk1, hW1, hF1, hb1⟩; have hz1 := hk.1.size; have hr1 := hk.call hb1)
   | (go_at_call_of 97 (Value.agg #[.bool m3, .slice B3 j3 d3]); have hk := And.right ‹_ ∧ RZ (w.heap.size + 1 + 1 + 1 + 1) 40 W _›; refine (M2.out _ (HBW.out _ hk)).mono ?_; rintro e v2 ⟨X2, u2, y2, rfl, hk2, hW2, hF2, hb2⟩; have hz2 := hk.1.size; have hr2 := hk.call hb2; have hW1 := hW1.below hb2)
   | (go_at_call 191; have hk := And.right ‹_ ∧ RZ (w.heap.size + 1 + 1 + 1 + 1) 40 W _›; refine (M4.out _ X1 X2 u1 u2 y1 y2 hW1 hk1 hW2 hk2).mono ?_; rintro e v4 ⟨X4, u4, y4, rfl, hk4, hW4, hF4, hb4⟩; have hz4 := hk.1.size; have hr4 := hk.call hb4)
   | (go_at_call 97; have hk := And.right ‹_ ∧ RZ (w.heap.size + 1 + 1 + 1 + 1) 40 W _›; refine (M3.out _ (HBW.out _ hk)).mono ?_; rintro e v3 ⟨X3, u3, y3, rfl, hk3, hW3, hF3, hb3⟩; have hz3 := hk.1.size; have hr3 := hk.call hb3; have hF4 := hF4.keep hW4 hb3; have hW4 := hW4.below hb3; obtain ⟨_, _, _, _, ⟨i0, i1, i2, i3⟩, i4, i5, i6, i7⟩ := hr3.four))
 have hbz : Below w.heap.size w ((((v3.setCell ⟨w.heap.size + 1 + 1 + 1 + 1, 0, none⟩ (.bool (decide (x4 < 0)))).setCell ⟨w.heap.size + 1 + 1 + 1 + 1, 1, none⟩ (.slice X4 u4 y4)).setCell ⟨w.heap.size + 1 + 1 + 1 + 1 + 1, 0, none⟩ (.bool (decide (x3 < 0)))).setCell ⟨w.heap.size + 1 + 1 + 1 + 1 + 1, 1, none⟩ (.slice X3 u3 y3)) := below_set2 (below_set2 (HBW.out _ hr3) (by omega) _ _) (by omega) _ _
 have hfin : RetZZ w x4 x3 (.returned (.tuple #[.agg #[.bool (decide (x4 < 0)), .slice X4 u4 y4], .agg #[.bool (decide (x3 < 0)), .slice X3 u3 y3]])) ((((v3.setCell ⟨w.heap.size + 1 + 1 + 1 + 1, 0, none⟩ (.bool (decide (x4 < 0)))).setCell ⟨w.heap.size + 1 + 1 + 1 + 1, 1, none⟩ (.slice X4 u4 y4)).setCell ⟨w.heap.size + 1 + 1 + 1 + 1 + 1, 0, none⟩ (.bool (decide (x3 < 0)))).setCell ⟨w.heap.size + 1 + 1 + 1 + 1 + 1, 1, none⟩ (.slice X3 u3 y3)) :=
  ⟨X4, u4, y4, X3, u3, y3, rfl, hk4, hk3, (hW4.set2two _ _ _ _ hF4 (by have := HSZ.out; omega)).1, (hW3.set2two _ _ _ _ hF3 (by have := HSZ.out; omega)).1, hbz⟩
 obtain ⟨hd1, hd2⟩ := hr3.done (.bool (decide (x4 < 0))) (.slice X4 u4 y4) (.bool (decide (x3 < 0))) (.slice X3 u3 y3)
 obtain ⟨d0, d1, -, -⟩ := hd1.two
 obtain ⟨d2, d3, -, -⟩ := hd2.two
 have D0 := Lib.hid d0
 have D1 := Lib.hid d1
 have D2 := Lib.hid d2
 have D3 := Lib.hid d3
 have HF := Lib.hid hfin
 clear hd1 hd2 d0 d1 d2 d3 hfin hbz
 go_wp2
 refine bodyPost_ret (v := _) ?_ rfl HF.out
 have d0 := D0.out
 have d1 := D1.out
 have d2 := D2.out
 have d3 := D3.out
 simp [results, Tryz.results190, go_sem, d0, d1, d2, d3]


set_option maxRecDepth 100000 in
set_option maxHeartbeats 4000000 in
theorem op_sub (M : Nat) (HO : WOK M) (m1 m2 m3 m4 : Bool) (B1 B2 B3 B4 : Option Addr) (j1 j2 j3 j4 d1 d2 d3 d4 : Nat) (r1 r2 r3 r4 : List Nat) (z1 z2 z3 z4 : Int) (w : World)
  (h1 : ZIn w m1 B1 j1 d1 r1 z1) (h2 : ZIn w m2 B2 j2 d2 r2 z2) (h3 : ZIn w m3 B3 j3 d3 r3 z3) (h4 : ZIn w m4 B4 j4 d4 r4 z4) (hb1 : (z1 * z4).natAbs < M) (hb2 : (z3 * z2).natAbs < M) :
  Calls Tryz.prog 192 #[.agg #[.bool m1, .slice B1 j1 d1], .agg #[.bool m2, .slice B2 j2 d2], .agg #[.bool m3, .slice B3 j3 d3], .agg #[.bool m4, .slice B4 j4 d4]] w (RetZZ w (z1 * z4 - z3 * z2) (z2 * z4)) := by
 have hk : ∀ w', Below w.heap.size w w' → ZIn w' m1 B1 j1 d1 r1 z1 ∧ ZIn w' m2 B2 j2 d2 r2 z2 ∧ ZIn w' m3 B3 j3 d3 r3 z3 ∧ ZIn w' m4 B4 j4 d4 r4 z4 := fun w' hb => ⟨h1.below hb, h2.below hb, h3.below hb, h4.below hb⟩
 have M1 := fun w' (hb : Below w.heap.size w w') => mul_in (hk w' hb).1 (hk w' hb).2.2.2
 have M2 := fun w' (hb : Below w.heap.size w w') => mul_in (hk w' hb).2.2.1 (hk w' hb).2.1
 have M3 := fun w' (hb : Below w.heap.size w w') => mul_in (hk w' hb).2.1 (hk w' hb).2.2.2
 have M4 := fun w' (X X' : Option Addr) (u u' v v' : Nat) (hx : Wat w' X u (digs (z1 * z4).natAbs)) (huv : u ≤ v) (hx' : Wat w' X' u' (digs (z3 * z2).natAbs)) (huv' : u' ≤ v') => sub_in HO hx huv hx' huv' hb1 hb2
 generalize z1 * z4 = x1 at *
 generalize z3 * z2 = x2 at *
 generalize z2 * z4 = x3 at *
 generalize x1 - x2 = x4 at *
 have M4 := Lib.hid M4
 have M1 := Lib.hid M1
 have M2 := Lib.hid M2
 have M3 := Lib.hid M3
 clear hk h1 h2 h3 h4 hb1 hb2
 go_enter Tryz.func192, Tryz.ntmps192
 go_wp2_with fail
 have hB0 := (((((Blk.new w 40 #[.bool m1, .slice B1 j1 d1]).alloc (.cells #[.bool m2, .slice B2 j2 d2] 40)).alloc (.cells #[.bool m3, .slice B3 j3 d3] 40)).alloc (.cells #[.bool m4, .slice B4 j4 d4] 40)).alloc (.cells #[.bool false, .slice none 0 0] 40)).alloc (.cells #[.bool false, .slice none 0 0] 40)
 have hB1 := ((((Blk.new1 w (.cells #[.bool m1, .slice B1 j1 d1] 40) 40 #[.bool m2, .slice B2 j2 d2]).alloc (.cells #[.bool m3, .slice B3 j3 d3] 40)).alloc (.cells #[.bool m4, .slice B4 j4 d4] 40)).alloc (.cells #[.bool false, .slice none 0 0] 40)).alloc (.cells #[.bool false, .slice none 0 0] 40)
 have hB2 := (((Blk.new2 w (.cells #[.bool m1, .slice B1 j1 d1] 40) (.cells #[.bool m2, .slice B2 j2 d2] 40) 40 #[.bool m3, .slice B3 j3 d3]).alloc (.cells #[.bool m4, .slice B4 j4 d4] 40)).alloc (.cells #[.bool false, .slice none 0 0] 40)).alloc (.cells #[.bool false, .slice none 0 0] 40)
 have hB3 := ((Blk.new3 w (.cells #[.bool m1, .slice B1 j1 d1] 40) (.cells #[.bool m2, .slice B2 j2 d2] 40) (.cells #[.bool m3, .slice B3 j3 d3] 40) 40 #[.bool m4, .slice B4 j4 d4]).alloc (.cells #[.bool false, .slice none 0 0] 40)).alloc (.cells #[.bool false, .slice none 0 0] 40)
 have hB4 := (Blk.new4 w (.cells #[.bool m1, .slice B1 j1 d1] 40) (.cells #[.bool m2, .slice B2 j2 d2] 40) (.cells #[.bool m3, .slice B3 j3 d3] 40) (.cells #[.bool m4, .slice B4 j4 d4] 40) 40 #[.bool false, .slice none 0 0]).alloc (.cells #[.bool false, .slice none 0 0] 40)
 have hB5 := Blk.new5 w (.cells #[.bool m1, .slice B1 j1 d1] 40) (.cells #[.bool m2, .slice B2 j2 d2] 40) (.cells #[.bool m3, .slice B3 j3 d3] 40) (.cells #[.bool m4, .slice B4 j4 d4] 40) (.cells #[.bool false, .slice none 0 0] 40) 40 #[.bool false, .slice none 0 0]
 have hBW : Below w.heap.size w ((((((w.alloc (.cells #[.bool m1, .slice B1 j1 d1] 40)).alloc (.cells #[.bool m2, .slice B2 j2 d2] 40)).alloc (.cells #[.bool m3, .slice B3 j3 d3] 40)).alloc (.cells #[.bool m4, .slice B4 j4 d4] 40)).alloc (.cells #[.bool false, .slice none 0 0] 40)).alloc (.cells #[.bool false, .slice none 0 0] 40)) := ((((((Below.refl _ _).alloc (Nat.le_refl _) _).alloc (by simp only [World.size_alloc]; omega) _).alloc (by simp only [World.size_alloc]; omega) _).alloc (by simp only [World.size_alloc]; omega) _).alloc (by simp only [World.size_alloc]; omega) _).alloc (by simp only [World.size_alloc]; omega) _
 have hsz : ((((((w.alloc (.cells #[.bool m1, .slice B1 j1 d1] 40)).alloc (.cells #[.bool m2, .slice B2 j2 d2] 40)).alloc (.cells #[.bool m3, .slice B3 j3 d3] 40)).alloc (.cells #[.bool m4, .slice B4 j4 d4] 40)).alloc (.cells #[.bool false, .slice none 0 0] 40)).alloc (.cells #[.bool false, .slice none 0 0] 40)).heap.size = w.heap.size + 1 + 1 + 1 + 1 + 1 + 1 := by simp
 generalize (((((w.alloc (.cells #[.bool m1, .slice B1 j1 d1] 40)).alloc (.cells #[.bool m2, .slice B2 j2 d2] 40)).alloc (.cells #[.bool m3, .slice B3 j3 d3] 40)).alloc (.cells #[.bool m4, .slice B4 j4 d4] 40)).alloc (.cells #[.bool false, .slice none 0 0] 40)).alloc (.cells #[.bool false, .slice none 0 0] 40) = W at *
 have HSZ := Lib.hid hsz
 clear hsz
 have s4 := RZ.start hB4 hB5
 have hbw : ∀ w', RZ (w.heap.size + 1 + 1 + 1 + 1) 40 W w' → Below w.heap.size w w' := fun w' hk => hBW.trans (hk.1.mono (by omega))
 have HBW := Lib.hid hbw
 clear hbw
 have hS : ∀ w', RZ (w.heap.size + 1 + 1 + 1 + 1) 40 W w' → (w'.cell? ⟨w.heap.size, 0, none⟩ = some (.bool m1) ∧ w'.cell? ⟨w.heap.size, 1, none⟩ = some (.slice B1 j1 d1) ∧ w'.cell? ⟨w.heap.size + 1, 0, none⟩ = some (.bool m2) ∧ w'.cell? ⟨w.heap.size + 1, 1, none⟩ = some (.slice B2 j2 d2) ∧ w'.cell? ⟨w.heap.size + 1 + 1, 0, none⟩ = some (.bool m3) ∧ w'.cell? ⟨w.heap.size + 1 + 1, 1, none⟩ = some (.slice B3 j3 d3) ∧ w'.cell? ⟨w.heap.size + 1 + 1 + 1, 0, none⟩ = some (.bool m4) ∧ w'.cell? ⟨w.heap.size + 1 + 1 + 1, 1, none⟩ = some (.slice B4 j4 d4)) ∧ RZ (w.heap.size + 1 + 1 + 1 + 1) 40 W w' := fun w' hk => ⟨⟨(hk.blk hB0 (by omega)).cell 0, (hk.blk hB0 (by omega)).cell 1, (hk.blk hB1 (by omega)).cell 0, (hk.blk hB1 (by omega)).cell 1, (hk.blk hB2 (by omega)).cell 0, (hk.blk hB2 (by omega)).cell 1, (hk.blk hB3 (by omega)).cell 0, (hk.blk hB3 (by omega)).cell 1⟩, hk⟩
 have HS := Lib.hid hS
 clear hS
 clear hB4 hB5
 go_region_held3 (fun w' => (w'.cell? ⟨w.heap.size, 0, none⟩ = some (.bool m1) ∧ w'.cell? ⟨w.heap.size, 1, none⟩ = some (.slice B1 j1 d1) ∧ w'.cell? ⟨w.heap.size + 1, 0, none⟩ = some (.bool m2) ∧ w'.cell? ⟨w.heap.size + 1, 1, none⟩ = some (.slice B2 j2 d2) ∧ w'.cell? ⟨w.heap.size + 1 + 1, 0, none⟩ = some (.bool m3) ∧ w'.cell? ⟨w.heap.size + 1 + 1, 1, none⟩ = some (.slice B3 j3 d3) ∧ w'.cell? ⟨w.heap.size + 1 + 1 + 1, 0, none⟩ = some (.bool m4) ∧ w'.cell? ⟨w.heap.size + 1 + 1 + 1, 1, none⟩ = some (.slice B4 j4 d4)) ∧ RZ (w.heap.size + 1 + 1 + 1 + 1) 40 W w')
  (first | (with_reducible refine HS.out _ ?_; with_reducible assumption) | (with_reducible refine HS.out _ (RZ.drew ?_); with_reducible assumption) | (with_reducible refine' HS.out _ (RZ.drew (And.right ?_)); rotate_left; with_reducible assumption) | (with_reducible refine' HS.out _ (RZ.setA (And.right ?_) _ _); rotate_left; with_reducible assumption) | (with_reducible refine' HS.out _ (RZ.setB (And.right ?_) _ _); rotate_left; with_reducible assumption))
  (first
   | (go_at_call_of 97 (Value.agg #[.bool m1, .slice B1 j1 d1]); have hk := And.right ‹_ ∧ RZ (w.heap.size + 1 + 1 + 1 + 1) 40 W _›; refine (M1.out _ (HBW.out _ hk)).mono ?_; rintro e v1 ⟨X1, u1, y1, rfl, hk1, hW1, hF1, hb1⟩; have hz1 := hk.1.size; have hr1 := hk.call hb1)
   | (go_at_call_of 97 (Value.agg #[.bool m3, .slice B3 j3 d3]); have hk := And.right ‹_ ∧ RZ (w.heap.size + 1 + 1 + 1 + 1) 40 W _›; refine (M2.out _ (HBW.out _ hk)).mono ?_; rintro e v2 ⟨X2, u2, y2, rfl, hk2, hW2, hF2, hb2⟩; have hz2 := hk.1.size; have hr2 := hk.call hb2; have hW1 := hW1.below hb2)
   | (go_at_call 193; have hk := And.right ‹_ ∧ RZ (w.heap.size + 1 + 1 + 1 + 1) 40 W _›; refine (M4.out _ X1 X2 u1 u2 y1 y2 hW1 hk1 hW2 hk2).mono ?_; rintro e v4 ⟨X4, u4, y4, rfl, hk4, hW4, hF4, hb4⟩; have hz4 := hk.1.size; have hr4 := hk.call hb4)
   | (go_at_call 97; have hk := And.right ‹_ ∧ RZ (w.heap.size + 1 + 1 + 1 + 1) 40 W _›; refine (M3.out _ (HBW.out _ hk)).mono ?_; rintro e v3 ⟨X3, u3, y3, rfl, hk3, hW3, hF3, hb3⟩; have hz3 := hk.1.size; have hr3 := hk.call hb3; have hF4 := hF4.keep hW4 hb3; have hW4 := hW4.below hb3; obtain ⟨_, _, _, _, ⟨i0, i1, i2, i3⟩, i4, i5, i6, i7⟩ := hr3.four))
 have hbz : Below w.heap.size w ((((v3.setCell ⟨w.heap.size + 1 + 1 + 1 + 1, 0, none⟩ (.bool (decide (x4 < 0)))).setCell ⟨w.heap.size + 1 + 1 + 1 + 1, 1, none⟩ (.slice X4 u4 y4)).setCell ⟨w.heap.size + 1 + 1 + 1 + 1 + 1, 0, none⟩ (.bool (decide (x3 < 0)))).setCell ⟨w.heap.size + 1 + 1 + 1 + 1 + 1, 1, none⟩ (.slice X3 u3 y3)) := below_set2 (below_set2 (HBW.out _ hr3) (by omega) _ _) (by omega) _ _
 have hfin : RetZZ w x4 x3 (.returned (.tuple #[.agg #[.bool (decide (x4 < 0)), .slice X4 u4 y4], .agg #[.bool (decide (x3 < 0)), .slice X3 u3 y3]])) ((((v3.setCell ⟨w.heap.size + 1 + 1 + 1 + 1, 0, none⟩ (.bool (decide (x4 < 0)))).setCell ⟨w.heap.size + 1 + 1 + 1 + 1, 1, none⟩ (.slice X4 u4 y4)).setCell ⟨w.heap.size + 1 + 1 + 1 + 1 + 1, 0, none⟩ (.bool (decide (x3 < 0)))).setCell ⟨w.heap.size + 1 + 1 + 1 + 1 + 1, 1, none⟩ (.slice X3 u3 y3)) :=
  ⟨X4, u4, y4, X3, u3, y3, rfl, hk4, hk3, (hW4.set2two _ _ _ _ hF4 (by have := HSZ.out; omega)).1, (hW3.set2two _ _ _ _ hF3 (by have := HSZ.out; omega)).1, hbz⟩
 obtain ⟨hd1, hd2⟩ := hr3.done (.bool (decide (x4 < 0))) (.slice X4 u4 y4) (.bool (decide (x3 < 0))) (.slice X3 u3 y3)
 obtain ⟨d0, d1, -, -⟩ := hd1.two
 obtain ⟨d2, d3, -, -⟩ := hd2.two
 have D0 := Lib.hid d0
 have D1 := Lib.hid d1
 have D2 := Lib.hid d2
 have D3 := Lib.hid d3
 have HF := Lib.hid hfin
 clear hd1 hd2 d0 d1 d2 d3 hfin hbz
 go_wp2
 refine bodyPost_ret (v := _) ?_ rfl HF.out
 have d0 := D0.out
 have d1 := D1.out
 have d2 := D2.out
 have d3 := D3.out
 simp [results, Tryz.results192, go_sem, d0, d1, d2, d3]


set_option maxRecDepth 100000 in
set_option maxHeartbeats 4000000 in
theorem op_mul (M : Nat) (HO : WOK M) (m1 m2 m3 m4 : Bool) (B1 B2 B3 B4 : Option Addr) (j1 j2 j3 j4 d1 d2 d3 d4 : Nat) (r1 r2 r3 r4 : List Nat) (z1 z2 z3 z4 : Int) (w : World)
  (h1 : ZIn w m1 B1 j1 d1 r1 z1) (h2 : ZIn w m2 B2 j2 d2 r2 z2) (h3 : ZIn w m3 B3 j3 d3 r3 z3) (h4 : ZIn w m4 B4 j4 d4 r4 z4) :
  Calls Tryz.prog 194 #[.agg #[.bool m1, .slice B1 j1 d1], .agg #[.bool m2, .slice B2 j2 d2], .agg #[.bool m3, .slice B3 j3 d3], .agg #[.bool m4, .slice B4 j4 d4]] w (RetZZ w (z1 * z3) (z2 * z4)) := by
 have hk : ∀ w', Below w.heap.size w w' → ZIn w' m1 B1 j1 d1 r1 z1 ∧ ZIn w' m2 B2 j2 d2 r2 z2 ∧ ZIn w' m3 B3 j3 d3 r3 z3 ∧ ZIn w' m4 B4 j4 d4 r4 z4 := fun w' hb => ⟨h1.below hb, h2.below hb, h3.below hb, h4.below hb⟩
 have M1 := fun w' (hb : Below w.heap.size w w') => mul_in (hk w' hb).1 (hk w' hb).2.2.1
 have M3 := fun w' (hb : Below w.heap.size w w') => mul_in (hk w' hb).2.1 (hk w' hb).2.2.2
 generalize z1 * z3 = x4 at *
 generalize z2 * z4 = x3 at *
 have M1 := Lib.hid M1
 have M3 := Lib.hid M3
 clear hk h1 h2 h3 h4
 go_enter Tryz.func194, Tryz.ntmps194
 go_wp2_with fail
 have hB0 := (((((Blk.new w 40 #[.bool m1, .slice B1 j1 d1]).alloc (.cells #[.bool m2, .slice B2 j2 d2] 40)).alloc (.cells #[.bool m3, .slice B3 j3 d3] 40)).alloc (.cells #[.bool m4, .slice B4 j4 d4] 40)).alloc (.cells #[.bool false, .slice none 0 0] 40)).alloc (.cells #[.bool false, .slice none 0 0] 40)
 have hB1 := ((((Blk.new1 w (.cells #[.bool m1, .slice B1 j1 d1] 40) 40 #[.bool m2, .slice B2 j2 d2]).alloc (.cells #[.bool m3, .slice B3 j3 d3] 40)).alloc (.cells #[.bool m4, .slice B4 j4 d4] 40)).alloc (.cells #[.bool false, .slice none 0 0] 40)).alloc (.cells #[.bool false, .slice none 0 0] 40)
 have hB2 := (((Blk.new2 w (.cells #[.bool m1, .slice B1 j1 d1] 40) (.cells #[.bool m2, .slice B2 j2 d2] 40) 40 #[.bool m3, .slice B3 j3 d3]).alloc (.cells #[.bool m4, .slice B4 j4 d4] 40)).alloc (.cells #[.bool false, .slice none 0 0] 40)).alloc (.cells #[.bool false, .slice none 0 0] 40)
 have hB3 := ((Blk.new3 w (.cells #[.bool m1, .slice B1 j1 d1] 40) (.cells #[.bool m2, .slice B2 j2 d2] 40) (.cells #[.bool m3, .slice B3 j3 d3] 40) 40 #[.bool m4, .slice B4 j4 d4]).alloc (.cells #[.bool false, .slice none 0 0] 40)).alloc (.cells #[.bool false, .slice none 0 0] 40)
 have hB4 := (Blk.new4 w (.cells #[.bool m1, .slice B1 j1 d1] 40) (.cells #[.bool m2, .slice B2 j2 d2] 40) (.cells #[.bool m3, .slice B3 j3 d3] 40) (.cells #[.bool m4, .slice B4 j4 d4] 40) 40 #[.bool false, .slice none 0 0]).alloc (.cells #[.bool false, .slice none 0 0] 40)
 have hB5 := Blk.new5 w (.cells #[.bool m1, .slice B1 j1 d1] 40) (.cells #[.bool m2, .slice B2 j2 d2] 40) (.cells #[.bool m3, .slice B3 j3 d3] 40) (.cells #[.bool m4, .slice B4 j4 d4] 40) (.cells #[.bool false, .slice none 0 0] 40) 40 #[.bool false, .slice none 0 0]
 have hBW : Below w.heap.size w ((((((w.alloc (.cells #[.bool m1, .slice B1 j1 d1] 40)).alloc (.cells #[.bool m2, .slice B2 j2 d2] 40)).alloc (.cells #[.bool m3, .slice B3 j3 d3] 40)).alloc (.cells #[.bool m4, .slice B4 j4 d4] 40)).alloc (.cells #[.bool false, .slice none 0 0] 40)).alloc (.cells #[.bool false, .slice none 0 0] 40)) := ((((((Below.refl _ _).alloc (Nat.le_refl _) _).alloc (by simp only [World.size_alloc]; omega) _).alloc (by simp only [World.size_alloc]; omega) _).alloc (by simp only [World.size_alloc]; omega) _).alloc (by simp only [World.size_alloc]; omega) _).alloc (by simp only [World.size_alloc]; omega) _
 have hsz : ((((((w.alloc (.cells #[.bool m1, .slice B1 j1 d1] 40)).alloc (.cells #[.bool m2, .slice B2 j2 d2] 40)).alloc (.cells #[.bool m3, .slice B3 j3 d3] 40)).alloc (.cells #[.bool m4, .slice B4 j4 d4] 40)).alloc (.cells #[.bool false, .slice none 0 0] 40)).alloc (.cells #[.bool false, .slice none 0 0] 40)).heap.size = w.heap.size + 1 + 1 + 1 + 1 + 1 + 1 := by simp
 generalize (((((w.alloc (.cells #[.bool m1, .slice B1 j1 d1] 40)).alloc (.cells #[.bool m2, .slice B2 j2 d2] 40)).alloc (.cells #[.bool m3, .slice B3 j3 d3] 40)).alloc (.cells #[.bool m4, .slice B4 j4 d4] 40)).alloc (.cells #[.bool false, .slice none 0 0] 40)).alloc (.cells #[.bool false, .slice none 0 0] 40) = W at *
 have HSZ := Lib.hid hsz
 clear hsz
 have s4 := RZ.start hB4 hB5
 have hbw : ∀ w', RZ (w.heap.size + 1 + 1 + 1 + 1) 40 W w' → Below w.heap.size w w' := fun w' hk => hBW.trans (hk.1.mono (by omega))
 have HBW := Lib.hid hbw
 clear hbw
 have hS : ∀ w', RZ (w.heap.size + 1 + 1 + 1 + 1) 40 W w' → (w'.cell? ⟨w.heap.size, 0, none⟩ = some (.bool m1) ∧ w'.cell? ⟨w.heap.size, 1, none⟩ = some (.slice B1 j1 d1) ∧ w'.cell? ⟨w.heap.size + 1, 0, none⟩ = some (.bool m2) ∧ w'.cell? ⟨w.heap.size + 1, 1, none⟩ = some (.slice B2 j2 d2) ∧ w'.cell? ⟨w.heap.size + 1 + 1, 0, none⟩ = some (.bool m3) ∧ w'.cell? ⟨w.heap.size + 1 + 1, 1, none⟩ = some (.slice B3 j3 d3) ∧ w'.cell? ⟨w.heap.size + 1 + 1 + 1, 0, none⟩ = some (.bool m4) ∧ w'.cell? ⟨w.heap.size + 1 + 1 + 1, 1, none⟩ = some (.slice B4 j4 d4)) ∧ RZ (w.heap.size + 1 + 1 + 1 + 1) 40 W w' := fun w' hk => ⟨⟨(hk.blk hB0 (by omega)).cell 0, (hk.blk hB0 (by omega)).cell 1, (hk.blk hB1 (by omega)).cell 0, (hk.blk hB1 (by omega)).cell 1, (hk.blk hB2 (by omega)).cell 0, (hk.blk hB2 (by omega)).cell 1, (hk.blk hB3 (by omega)).cell 0, (hk.blk hB3 (by omega)).cell 1⟩, hk⟩
 have HS := Lib.hid hS
 clear hS
 clear hB4 hB5
 go_region_held3 (fun w' => (w'.cell? ⟨w.heap.size, 0, none⟩ = some (.bool m1) ∧ w'.cell? ⟨w.heap.size, 1, none⟩ = some (.slice B1 j1 d1) ∧ w'.cell? ⟨w.heap.size + 1, 0, none⟩ = some (.bool m2) ∧ w'.cell? ⟨w.heap.size + 1, 1, none⟩ = some (.slice B2 j2 d2) ∧ w'.cell? ⟨w.heap.size + 1 + 1, 0, none⟩ = some (.bool m3) ∧ w'.cell? ⟨w.heap.size + 1 + 1, 1, none⟩ = some (.slice B3 j3 d3) ∧ w'.cell? ⟨w.heap.size + 1 + 1 + 1, 0, none⟩ = some (.bool m4) ∧ w'.cell? ⟨w.heap.size + 1 + 1 + 1, 1, none⟩ = some (.slice B4 j4 d4)) ∧ RZ (w.heap.size + 1 + 1 + 1 + 1) 40 W w')
  (first | (with_reducible refine HS.out _ ?_; with_reducible assumption) | (with_reducible refine HS.out _ (RZ.drew ?_); with_reducible assumption) | (with_reducible refine' HS.out _ (RZ.drew (And.right ?_)); rotate_left; with_reducible assumption) | (with_reducible refine' HS.out _ (RZ.setA (And.right ?_) _ _); rotate_left; with_reducible assumption) | (with_reducible refine' HS.out _ (RZ.setB (And.right ?_) _ _); rotate_left; with_reducible assumption))
  (first
   | (go_at_call_of 97 (Value.agg #[.bool m1, .slice B1 j1 d1]); have hk := And.right ‹_ ∧ RZ (w.heap.size + 1 + 1 + 1 + 1) 40 W _›; refine (M1.out _ (HBW.out _ hk)).mono ?_; rintro e v4 ⟨X4, u4, y4, rfl, hk4, hW4, hF4, hb4⟩; have hz4 := hk.1.size; have hr4 := hk.call hb4)
   | (go_at_call 97; have hk := And.right ‹_ ∧ RZ (w.heap.size + 1 + 1 + 1 + 1) 40 W _›; refine (M3.out _ (HBW.out _ hk)).mono ?_; rintro e v3 ⟨X3, u3, y3, rfl, hk3, hW3, hF3, hb3⟩; have hz3 := hk.1.size; have hr3 := hk.call hb3; have hF4 := hF4.keep hW4 hb3; have hW4 := hW4.below hb3; obtain ⟨_, _, _, _, ⟨i0, i1, i2, i3⟩, i4, i5, i6, i7⟩ := hr3.four))
 have hbz : Below w.heap.size w ((((v3.setCell ⟨w.heap.size + 1 + 1 + 1 + 1, 0, none⟩ (.bool (decide (x4 < 0)))).setCell ⟨w.heap.size + 1 + 1 + 1 + 1, 1, none⟩ (.slice X4 u4 y4)).setCell ⟨w.heap.size + 1 + 1 + 1 + 1 + 1, 0, none⟩ (.bool (decide (x3 < 0)))).setCell ⟨w.heap.size + 1 + 1 + 1 + 1 + 1, 1, none⟩ (.slice X3 u3 y3)) := below_set2 (below_set2 (HBW.out _ hr3) (by omega) _ _) (by omega) _ _
 have hfin : RetZZ w x4 x3 (.returned (.tuple #[.agg #[.bool (decide (x4 < 0)), .slice X4 u4 y4], .agg #[.bool (decide (x3 < 0)), .slice X3 u3 y3]])) ((((v3.setCell ⟨w.heap.size + 1 + 1 + 1 + 1, 0, none⟩ (.bool (decide (x4 < 0)))).setCell ⟨w.heap.size + 1 + 1 + 1 + 1, 1, none⟩ (.slice X4 u4 y4)).setCell ⟨w.heap.size + 1 + 1 + 1 + 1 + 1, 0, none⟩ (.bool (decide (x3 < 0)))).setCell ⟨w.heap.size + 1 + 1 + 1 + 1 + 1, 1, none⟩ (.slice X3 u3 y3)) :=
  ⟨X4, u4, y4, X3, u3, y3, rfl, hk4, hk3, (hW4.set2two _ _ _ _ hF4 (by have := HSZ.out; omega)).1, (hW3.set2two _ _ _ _ hF3 (by have := HSZ.out; omega)).1, hbz⟩
 obtain ⟨hd1, hd2⟩ := hr3.done (.bool (decide (x4 < 0))) (.slice X4 u4 y4) (.bool (decide (x3 < 0))) (.slice X3 u3 y3)
 obtain ⟨d0, d1, -, -⟩ := hd1.two
 obtain ⟨d2, d3, -, -⟩ := hd2.two
 have D0 := Lib.hid d0
 have D1 := Lib.hid d1
 have D2 := Lib.hid d2
 have D3 := Lib.hid d3
 have HF := Lib.hid hfin
 clear hd1 hd2 d0 d1 d2 d3 hfin hbz
 go_wp2
 refine bodyPost_ret (v := _) ?_ rfl HF.out
 have d0 := D0.out
 have d1 := D1.out
 have d2 := D2.out
 have d3 := D3.out
 simp [results, Tryz.results194, go_sem, d0, d1, d2, d3]

end Go.Proofs.YtjajigkacccdgaaGreat
