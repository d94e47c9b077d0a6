/-
divWords of package whole, of magnitudes of any size; what package whole owes holds up to any bound. Contracts of the table of operations and of its three functions '+', '-' and '*' of package frac. Contracts of calculate, Add, Sub and Mul of package frac. No statement of the seat is proved here; no conditions beyond those of each theorem.
-/
import Derived.Test.YtodkhjihkkmplaaGreatLPG
import Derived.Test.YtodkhjihkkmplaaGreatLPI
import Derived.Test.YtodkhjihkkmplaaGreatLPJ
namespace Go.Proofs.YtodkhjihkkmplaaGreat
set_option linter.unusedVariables false
set_option linter.unusedSimpArgs false
open Go.RowKit
open Wd

set_option maxRecDepth 100000 in
set_option maxHeartbeats 4000000 in
theorem divWords_one (A A' : Option Addr) (n c c' x y : Nat) (w : World) (h : Wat w A n (digs x)) (h' : Wat w A' 1 (digs y)) (hxy : y ≤ x) (hn2 : ¬ n ≤ 2) (hy : y ≠ 0) (hn : n ≤ 10000000000) :
  Calls Tryz.prog 139 #[.slice A n c, .slice A' 1 c'] w (RetDiv w x y) := by
 have hc : ¬ cmpI x y < 0 := by
  rcases Nat.lt_or_ge y x with h1 | h1
  ·rw [cmpI_gt (by omega)]; decide
  ·rw [cmpI_eq (by omega)]; decide
 have T := compareWords_bel A A' n 1 c c' x y w h h' (by omega) (by omega)
 generalize cmpI x y = cc at *
 have T := Lib.hid T
 have hyB : y < 4294967296 := by
  have := digs_len_le.1 (show (digs y).length ≤ 1 by rw [h'.1]; exact Nat.le_refl _)
  simpa using this
 have hdy : (digs y)[0]?.getD 0 = y := by
  have h1 := val_digs y
  have h2 := h'.1
  match hd : digs y, h2 with
  | [d], _ =>
   rw [hd] at h1
   simp only [val_cons, val_nil] at h1
   simp
   omega
 obtain ⟨b', o', rfl, hb', hc'⟩ := h'.2.2 (by omega)
 have d0 := hc' 0 (by omega)
 rw [hdy, Nat.add_zero] at d0
 have HH := Lib.hid h
 have HY := Lib.hid (And.intro hyB (And.intro hb' d0))
 have wy : IntKind.u64.wrap (y : Int) = (y : Int) := by rw [IntKind.wrap_u64]; omega
 have i1 : ¬ (n : Int) ≤ 2 := by omega
 clear h h' hxy hyB hdy hc' hb' d0
 go_enter Tryz.func139, Tryz.ntmps139
 go_wp2_with fail
 refine T.out.mono ?_
 rintro e w1 ⟨rfl, hb1⟩
 have HB1 := Lib.hid hb1
 clear T hb1
 go_wp2_with fail
 refine (clone_any A n c (digs x) w1 (HH.out.below HB1.out) (by omega)).mono ?_
 rintro e w2 ⟨A2, c2, rfl, hk2, hcm2, hW2, hF2, hb2⟩
 obtain ⟨b, o, rfl, hbb, hR2⟩ := Rw.of hW2 hF2 (by omega)
 have HB2 := Lib.hid (HB1.out.trans (hb2.mono HB1.out.size))
 have d1 := (HB2.out.cell (p := ⟨b', o', none⟩) HY.out.2.1).trans HY.out.2.2
 have T2 := Lib.hid (shortDiv_any b o n c2 y (digs x) w2 hR2 hn (by omega) HY.out.1)
 have HK := Lib.hid (And.intro hk2 (show w.heap.size ≤ b from Nat.le_trans HB1.out.size hbb))
 clear hk2 hcm2 hW2 hF2 hb2 hbb hR2
 go_wp2_with fail
 refine T2.out.mono ?_
 rintro e w3 ⟨p, rfl, hR3, hv3, hx3⟩
 clear T2
 have hrl : val (digs x) % y < 4294967296 := Nat.lt_trans (Nat.mod_lt _ (by omega)) HY.out.1
 have hb3 := Bx.below HB2.out hx3 HK.out.2
 have hb4 : Below w.heap.size w (w3.alloc (.cells #[.int .u32 ((val (digs x) % y : Nat) : Int)] 50)) := Below.alloc hb3 hb3.size _
 have hwt := wat_one (w3.alloc (.cells #[.int .u32 ((val (digs x) % y : Nat) : Int)] 50)) (val (digs x) % y) hrl 50 w3.heap.size (Blk.new w3 _ _) w.heap.size hb3.size
 have hR4 := hR3.below ((Below.refl _ w3).alloc (Nat.le_refl _) (.cells #[.int .u32 ((val (digs x) % y : Nat) : Int)] 50)) hR3.2.2.1
 have hfin : RetDiv w x y (.returned (.tuple #[.slice (some ⟨b, o, none⟩) n c2, .slice (some ⟨w3.heap.size, 0, none⟩) 1 1])) (w3.alloc (.cells #[.int .u32 ((val (digs x) % y : Nat) : Int)] 50)) :=
  ⟨_, _, _, p, _, _, _, _, rfl, HK.out.1, Nat.le_refl _, by omega, by omega, hR4.wat, hwt.1, hR4.fresh HK.out.2, hwt.2, by rw [hv3, val_digs], by simp [val_cons, val_nil, val_digs], hb4⟩
 have HF := Lib.hid hfin
 have wr : ((val (digs x) % y : Nat) : Int) % 4294967296 = ((val (digs x) % y : Nat) : Int) := by omega
 generalize val (digs x) % y = r at *
 clear hfin hR4 hwt hb4 hb3 hrl hR3 hv3 hx3 d1
 go_wp2
 go_ret2
 exact HF.out

set_option maxRecDepth 100000 in
set_option maxHeartbeats 4000000 in
theorem divWords_long (A A' : Option Addr) (n m k c c' x y : Nat) (w : World) (h : Wat w A n (digs x)) (h' : Wat w A' (k + 2) (digs y)) (hxy : y ≤ x) (hn2 : ¬ n ≤ 2) (hle : n = m + (k + 2)) (hn : n ≤ 10000000000) :
  Calls Tryz.prog 139 #[.slice A n c, .slice A' (k + 2) c'] w (RetDiv w x y) := by
 have hc : ¬ cmpI x y < 0 := by
  rcases Nat.lt_or_ge y x with h1 | h1
  ·rw [cmpI_gt (by omega)]; decide
  ·rw [cmpI_eq (by omega)]; decide
 have T := compareWords_bel A A' n (k + 2) c c' x y w h h' (by omega) (by omega)
 generalize cmpI x y = cc at *
 have T := Lib.hid T
 have T2 := Lib.hid (fun W (hW : Below w.heap.size w W) => longDiv_any A A' n k m c c' x y W (h.below hW) (h'.below hW) hle hn)
 obtain ⟨kk, hkk⟩ : ∃ kk, kk = k + 2 := ⟨_, rfl⟩
 have i2 : ((kk : Int) == 1) = false := by simp; omega
 have i3 : ¬ kk = 1 := by omega
 rw [← hkk] at T T2 ⊢
 have i1 : ¬ (n : Int) ≤ 2 := by omega
 clear h h' hxy hle hkk
 go_enter Tryz.func139, Tryz.ntmps139
 go_wp2_with fail
 refine T.out.mono ?_
 rintro e w1 ⟨rfl, hb1⟩
 have HB1 := Lib.hid hb1
 clear T hb1
 go_wp2_with fail
 refine (T2.out w1 HB1.out).mono ?_
 rintro e w2 ⟨A1, n1, c1, q, A2, n2, c2, r, rfl, k1, k2, k3, k4, k5, k6, k7, k8, k9, k10, k11⟩
 have hfin : RetDiv w x y (.returned (.tuple #[.slice A1 n1 c1, .slice A2 n2 c2])) w2 :=
  ⟨_, _, _, q, _, _, _, r, rfl, k1, k2, k3, k4, k5, k6, k7.mono HB1.out.size, k8.mono HB1.out.size, k9, k10, HB1.out.trans (k11.mono HB1.out.size)⟩
 have HF := Lib.hid hfin
 clear hfin k1 k2 k3 k4 k5 k6 k7 k8 k9 k10 k11 T2
 go_wp2
 go_ret2
 exact HF.out

theorem divW_any (M : Nat) : DivW M := by
 intro A A' n n' c c' x y w h h' _ hy hn hn'
 rcases Nat.lt_or_ge x y with hlt | hge
 ·exact divWords_less A A' n n' c c' x y w h h' hlt hn hn'
 ·rcases Nat.lt_or_ge x 18446744073709551616 with h64 | h64
  ·exact divWords_two A A' n n' c c' x y w h h' hge h64 hy hn hn'
  ·have hn2 : ¬ n ≤ 2 := fun hh => by
    have := digs_len_le.1 (show (digs x).length ≤ 2 by rw [h.1]; exact hh)
    omega
   have hmono := digs_len_mono hge
   rw [h.1, h'.1] at hmono
   match n', h', hmono with
   | 0, h', _ =>
    have := List.eq_nil_of_length_eq_zero h'.1
    have h2 := val_digs y
    rw [this] at h2
    exact absurd h2.symm hy
   | 1, h', _ => exact divWords_one A A' n c c' x y w h h' hge hn2 hy hn
   | k + 2, h', hmono =>
    obtain ⟨m, hm⟩ : ∃ m, n = m + (k + 2) := ⟨n - (k + 2), by omega⟩
    exact divWords_long A A' n m k c c' x y w h h' hge hn2 hm hn

/-- What package whole owes, up to any bound whose integers fit a slice. -/
theorem wok_any (M : Nat) (hM : ∀ x, x < M → (digs x).length ≤ 10000000000) : WOK M := ⟨addOK_any M, subOK_any M, divW_any M, hM⟩
theorem wok_words (K : Nat) (hK : K ≤ 10000000000) : WOK (4294967296 ^ K) := wok_any _ fun x hx => Nat.le_trans (digs_len_le.2 hx) hK

end Go.Proofs.YtodkhjihkkmplaaGreat

namespace Go.Proofs.YtodkhjihkkmplaaGreat
set_option linter.unusedVariables false
set_option linter.unusedSimpArgs false
open Go.RowKit
open Wd

/-- The entries of the table. -/
def opEntries : Array MapEntry := #[⟨.int .u8 43, .agg #[.func (.func 133) #[] #[]], 0⟩, ⟨.int .u8 45, .agg #[.func (.func 135) #[] #[]], 1⟩,
 ⟨.int .u8 42, .agg #[.func (.func 137) #[] #[]], 2⟩, ⟨.int .u8 47, .agg #[.func (.func 138) #[] #[]], 3⟩]

theorem set_push (a : Array Obj) (x y : Obj) : (a.push x).setIfInBounds a.size y = a.push y := by
 apply Array.ext_getElem?
 intro i
 rw [Array.getElem?_setIfInBounds, Array.getElem?_push, Array.getElem?_push]
 by_cases h : a.size = i
 ·subst h; simp
 ·rw [if_neg h, if_neg (by omega), if_neg (by omega)]

theorem run_ins_new (w : World) (es : Array MapEntry) (clock : Nat) (k : Int) (v : Value) (hf : Instr.findNow (.int .u8) (.int .u8 k) es.toList 0 = some none) :
  (Instr.mapUpdate 115 (.map (some w.heap.size)) (.int .u8 k) v).run Tryz.prog (w.alloc (.map es clock)) = .ok () (w.alloc (.map (es.push ⟨.int .u8 k, v, clock⟩) (clock + 1))) := by
 have hg : (w.alloc (.map es clock)).heap[w.heap.size]? = some (.map es clock) := heap_alloc_new w _
 have hc : (Instr.checkKey false 10000 5 (.int .u8 k)).run Tryz.prog (w.alloc (.map es clock)) = .ok () (w.alloc (.map es clock)) := MapKept.run_checkKey (k := .int .u8 k) Tryz.underlying5 (by simp [MapKept.IsKey]) false 9999
 have he : ({ (w.alloc (.map es clock)) with heap := (w.alloc (.map es clock)).heap.setIfInBounds w.heap.size (.map (es.push ⟨.int .u8 k, v, clock⟩) (clock + 1)) } : World) = w.alloc (.map (es.push ⟨.int .u8 k, v, clock⟩) (clock + 1)) := by
  show ({ w with heap := (w.heap.push (.map es clock)).setIfInBounds w.heap.size (.map (es.push ⟨.int .u8 k, v, clock⟩) (clock + 1)) } : World) = { w with heap := w.heap.push (.map (es.push ⟨.int .u8 k, v, clock⟩) (clock + 1)) }
  rw [set_push]
 simp [Instr.mapUpdate, run_underlying Tryz.underlying115, MapKept.run_getObj_map hg, hc, MapKept.run_findKey Tryz.underlying5 hf, MapKept.run_setObj_map _ hg, Result.andThen]
 exact he

theorem look_any (w : World) (g : Nat) (k : Int) (i : Nat) (v : Value) (hw : w.heap[g]? = some (.map opEntries 4)) (hf : Instr.findNow (.int .u8) (.int .u8 k) opEntries.toList 0 = some (some (i, v))) :
  (Instr.lookup 115 (.map (some g)) (.int .u8 k) false).run Tryz.prog w = .ok v w := by
 have hc : (Instr.checkKey opEntries.isEmpty 10000 5 (.int .u8 k)).run Tryz.prog w = .ok () w := MapKept.run_checkKey (k := .int .u8 k) Tryz.underlying5 (by simp [MapKept.IsKey]) _ 9999
 simp [Instr.lookup, run_underlying Tryz.underlying115, MapKept.run_getObj_map hw, hc, MapKept.run_findKey Tryz.underlying5 hf, Result.andThen]

theorem look_add (w : World) (g : Nat) (hw : w.heap[g]? = some (.map opEntries 4)) :
  (Instr.lookup 115 (.map (some g)) (.int .u8 43) false).run Tryz.prog w = .ok (.agg #[.func (.func 133) #[] #[]]) w := look_any w g 43 0 _ hw rfl
theorem look_sub (w : World) (g : Nat) (hw : w.heap[g]? = some (.map opEntries 4)) :
  (Instr.lookup 115 (.map (some g)) (.int .u8 45) false).run Tryz.prog w = .ok (.agg #[.func (.func 135) #[] #[]]) w := look_any w g 45 1 _ hw rfl
theorem look_mul (w : World) (g : Nat) (hw : w.heap[g]? = some (.map opEntries 4)) :
  (Instr.lookup 115 (.map (some g)) (.int .u8 42) false).run Tryz.prog w = .ok (.agg #[.func (.func 137) #[] #[]]) w := look_any w g 42 2 _ hw rfl

set_option maxHeartbeats 1000000 in
theorem operations_any (w : World) : Calls Tryz.prog 90 #[] w fun e w' => e = .returned (.map (some w.heap.size)) ∧ w'.heap[w.heap.size]? = some (.map opEntries 4) ∧ Below w.heap.size w w' := by
 have hmm := @run_makeMap Tryz.prog
 have h1 := fun w => run_ins_new w #[] 0 43 (.agg #[.func (.func 133) #[] #[]]) rfl
 have h2 := fun w => run_ins_new w #[⟨.int .u8 43, .agg #[.func (.func 133) #[] #[]], 0⟩] 1 45 (.agg #[.func (.func 135) #[] #[]]) rfl
 have h3 := fun w => run_ins_new w #[⟨.int .u8 43, .agg #[.func (.func 133) #[] #[]], 0⟩, ⟨.int .u8 45, .agg #[.func (.func 135) #[] #[]], 1⟩] 2 42 (.agg #[.func (.func 137) #[] #[]]) rfl
 have h4 := fun w => run_ins_new w #[⟨.int .u8 43, .agg #[.func (.func 133) #[] #[]], 0⟩, ⟨.int .u8 45, .agg #[.func (.func 135) #[] #[]], 1⟩, ⟨.int .u8 42, .agg #[.func (.func 137) #[] #[]], 2⟩] 3 47 (.agg #[.func (.func 138) #[] #[]]) rfl
 simp only [List.push_toArray, List.nil_append, List.cons_append, Nat.zero_add, Nat.reduceAdd] at h1 h2 h3 h4
 go_enter Tryz.func90, Tryz.ntmps90
 go_wp2
 go_ret
 exact ⟨rfl, heap_alloc_new w _, (Below.refl _ _).alloc (Nat.le_refl _) _⟩

theorem field_op (f : Value) (w : World) : (Instr.field 114 (.agg #[f]) 0).run Tryz.prog w = .ok f w := by kernel_rfl

/-- Two canonical integers in new memory. -/
def RetZZ (w : World) (z z' : Int) (e : Ending) (w' : World) : Prop :=
 ∃ A k c A' k' c', e = .returned (.tuple #[.agg #[.bool (decide (z < 0)), .slice A k c], .agg #[.bool (decide (z' < 0)), .slice A' k' c']]) ∧ k ≤ c ∧ k' ≤ c' ∧ Wat w' A k (digs z.natAbs) ∧ Wat w' A' k' (digs z'.natAbs) ∧ Below w.heap.size w w'

/-- An integer operand in memory. -/
def ZIn (w : World) (neg : Bool) (A : Option Addr) (n c : Nat) (l : List Nat) (z : Int) : Prop := Wat w A n l ∧ n ≤ c ∧ n ≤ 10000000000 ∧ sg neg (val l) = z
theorem ZIn.below {w w' : World} {neg : Bool} {A : Option Addr} {n c : Nat} {l : List Nat} {z : Int} (h : ZIn w neg A n c l z) (hb : Below w.heap.size w w') : ZIn w' neg A n c l z := ⟨h.1.below hb, h.2⟩
theorem ZIn.abs {w : World} {neg : Bool} {A : Option Addr} {n c : Nat} {l : List Nat} {z : Int} (h : ZIn w neg A n c l z) : val l = z.natAbs := by rw [← h.2.2.2, sg_natAbs]

theorem mul_in {w : World} {m1 m2 : Bool} {B1 B2 : Option Addr} {j1 d1 j2 d2 : Nat} {r1 r2 : List Nat} {z1 z2 : Int} (h1 : ZIn w m1 B1 j1 d1 r1 z1) (h2 : ZIn w m2 B2 j2 d2 r2 z2) :
  Calls Tryz.prog 56 #[.agg #[.bool m1, .slice B1 j1 d1], .agg #[.bool m2, .slice B2 j2 d2]] w (RetZ w (z1 * z2)) := by
 have := mul_any m1 m2 B1 B2 j1 j2 d1 d2 r1 r2 w h1.1 h2.1 h1.2.1 h2.2.1 (by have := h1.2.2.1; omega) (by have := h2.2.2.1; omega)
 rwa [h1.2.2.2, h2.2.2.2] at this
theorem add_in {M : Nat} (HO : WOK M) {w : World} {z1 z2 : Int} {B1 B2 : Option Addr} {j1 d1 j2 d2 : Nat} (h1 : Wat w B1 j1 (digs z1.natAbs)) (hd1 : j1 ≤ d1) (h2 : Wat w B2 j2 (digs z2.natAbs)) (hd2 : j2 ≤ d2) (hz1 : z1.natAbs < M) (hz2 : z2.natAbs < M) :
  Calls Tryz.prog 134 #[.agg #[.bool (decide (z1 < 0)), .slice B1 j1 d1], .agg #[.bool (decide (z2 < 0)), .slice B2 j2 d2]] w (RetZ w (z1 + z2)) := by
 have := HO.add (decide (z1 < 0)) (decide (z2 < 0)) B1 B2 j1 j2 d1 d2 _ _ w h1 h2 hd1 hd2 (by rw [← h1.1]; exact HO.len _ hz1) (by rw [← h2.1]; exact HO.len _ hz2) (by rw [val_digs]; exact hz1) (by rw [val_digs]; exact hz2)
 rwa [val_digs, val_digs, sg_self, sg_self] at this
theorem sub_in {M : Nat} (HO : WOK M) {w : World} {z1 z2 : Int} {B1 B2 : Option Addr} {j1 d1 j2 d2 : Nat} (h1 : Wat w B1 j1 (digs z1.natAbs)) (hd1 : j1 ≤ d1) (h2 : Wat w B2 j2 (digs z2.natAbs)) (hd2 : j2 ≤ d2) (hz1 : z1.natAbs < M) (hz2 : z2.natAbs < M) :
  Calls Tryz.prog 136 #[.agg #[.bool (decide (z1 < 0)), .slice B1 j1 d1], .agg #[.bool (decide (z2 < 0)), .slice B2 j2 d2]] w (RetZ w (z1 - z2)) := by
 have := HO.sub (decide (z1 < 0)) (decide (z2 < 0)) B1 B2 j1 j2 d1 d2 _ _ w h1 h2 hd1 hd2 (by rw [← h1.1]; exact HO.len _ hz1) (by rw [← h2.1]; exact HO.len _ hz2) (by rw [val_digs]; exact hz1) (by rw [val_digs]; exact hz2)
 rwa [val_digs, val_digs, sg_self, sg_self] at this


set_option maxRecDepth 100000 in
set_option maxHeartbeats 4000000 in
theorem op_add (M : Nat) (HO : WOK M) (m1 m2 m3 m4 : Bool) (B1 B2 B3 B4 : Option Addr) (j1 j2 j3 j4 d1 d2 d3 d4 : Nat) (r1 r2 r3 r4 : List Nat) (z1 z2 z3 z4 : Int) (w : World)
  (h1 : ZIn w m1 B1 j1 d1 r1 z1) (h2 : ZIn w m2 B2 j2 d2 r2 z2) (h3 : ZIn w m3 B3 j3 d3 r3 z3) (h4 : ZIn w m4 B4 j4 d4 r4 z4) (hb1 : (z1 * z4).natAbs < M) (hb2 : (z3 * z2).natAbs < M) :
  Calls Tryz.prog 133 #[.agg #[.bool m1, .slice B1 j1 d1], .agg #[.bool m2, .slice B2 j2 d2], .agg #[.bool m3, .slice B3 j3 d3], .agg #[.bool m4, .slice B4 j4 d4]] w (RetZZ w (z1 * z4 + z3 * z2) (z2 * z4)) := by
 have hk : ∀ w', Below w.heap.size w w' → ZIn w' m1 B1 j1 d1 r1 z1 ∧ ZIn w' m2 B2 j2 d2 r2 z2 ∧ ZIn w' m3 B3 j3 d3 r3 z3 ∧ ZIn w' m4 B4 j4 d4 r4 z4 := fun w' hb => ⟨h1.below hb, h2.below hb, h3.below hb, h4.below hb⟩
 have M1 := fun w' (hb : Below w.heap.size w w') => mul_in (hk w' hb).1 (hk w' hb).2.2.2
 have M2 := fun w' (hb : Below w.heap.size w w') => mul_in (hk w' hb).2.2.1 (hk w' hb).2.1
 have M3 := fun w' (hb : Below w.heap.size w w') => mul_in (hk w' hb).2.1 (hk w' hb).2.2.2
 have M4 := fun w' (X X' : Option Addr) (u u' v v' : Nat) (hx : Wat w' X u (digs (z1 * z4).natAbs)) (huv : u ≤ v) (hx' : Wat w' X' u' (digs (z3 * z2).natAbs)) (huv' : u' ≤ v') => add_in HO hx huv hx' huv' hb1 hb2
 generalize z1 * z4 = x1 at *
 generalize z3 * z2 = x2 at *
 generalize z2 * z4 = x3 at *
 generalize x1 + x2 = x4 at *
 have M4 := Lib.hid M4
 have M1 := Lib.hid M1
 have M2 := Lib.hid M2
 have M3 := Lib.hid M3
 clear hk h1 h2 h3 h4 hb1 hb2
 go_enter Tryz.func133, Tryz.ntmps133
 go_wp2_with fail
 have hB0 := (((((Blk.new w 29 #[.bool m1, .slice B1 j1 d1]).alloc (.cells #[.bool m2, .slice B2 j2 d2] 29)).alloc (.cells #[.bool m3, .slice B3 j3 d3] 29)).alloc (.cells #[.bool m4, .slice B4 j4 d4] 29)).alloc (.cells #[.bool false, .slice none 0 0] 29)).alloc (.cells #[.bool false, .slice none 0 0] 29)
 have hB1 := ((((Blk.new1 w (.cells #[.bool m1, .slice B1 j1 d1] 29) 29 #[.bool m2, .slice B2 j2 d2]).alloc (.cells #[.bool m3, .slice B3 j3 d3] 29)).alloc (.cells #[.bool m4, .slice B4 j4 d4] 29)).alloc (.cells #[.bool false, .slice none 0 0] 29)).alloc (.cells #[.bool false, .slice none 0 0] 29)
 have hB2 := (((Blk.new2 w (.cells #[.bool m1, .slice B1 j1 d1] 29) (.cells #[.bool m2, .slice B2 j2 d2] 29) 29 #[.bool m3, .slice B3 j3 d3]).alloc (.cells #[.bool m4, .slice B4 j4 d4] 29)).alloc (.cells #[.bool false, .slice none 0 0] 29)).alloc (.cells #[.bool false, .slice none 0 0] 29)
 have hB3 := ((Blk.new3 w (.cells #[.bool m1, .slice B1 j1 d1] 29) (.cells #[.bool m2, .slice B2 j2 d2] 29) (.cells #[.bool m3, .slice B3 j3 d3] 29) 29 #[.bool m4, .slice B4 j4 d4]).alloc (.cells #[.bool false, .slice none 0 0] 29)).alloc (.cells #[.bool false, .slice none 0 0] 29)
 have hB4 := (Blk.new4 w (.cells #[.bool m1, .slice B1 j1 d1] 29) (.cells #[.bool m2, .slice B2 j2 d2] 29) (.cells #[.bool m3, .slice B3 j3 d3] 29) (.cells #[.bool m4, .slice B4 j4 d4] 29) 29 #[.bool false, .slice none 0 0]).alloc (.cells #[.bool false, .slice none 0 0] 29)
 have hB5 := Blk.new5 w (.cells #[.bool m1, .slice B1 j1 d1] 29) (.cells #[.bool m2, .slice B2 j2 d2] 29) (.cells #[.bool m3, .slice B3 j3 d3] 29) (.cells #[.bool m4, .slice B4 j4 d4] 29) (.cells #[.bool false, .slice none 0 0] 29) 29 #[.bool false, .slice none 0 0]
 have hBW : Below w.heap.size w ((((((w.alloc (.cells #[.bool m1, .slice B1 j1 d1] 29)).alloc (.cells #[.bool m2, .slice B2 j2 d2] 29)).alloc (.cells #[.bool m3, .slice B3 j3 d3] 29)).alloc (.cells #[.bool m4, .slice B4 j4 d4] 29)).alloc (.cells #[.bool false, .slice none 0 0] 29)).alloc (.cells #[.bool false, .slice none 0 0] 29)) := ((((((Below.refl _ _).alloc (Nat.le_refl _) _).alloc (by simp only [World.size_alloc]; omega) _).alloc (by simp only [World.size_alloc]; omega) _).alloc (by simp only [World.size_alloc]; omega) _).alloc (by simp only [World.size_alloc]; omega) _).alloc (by simp only [World.size_alloc]; omega) _
 have hsz : ((((((w.alloc (.cells #[.bool m1, .slice B1 j1 d1] 29)).alloc (.cells #[.bool m2, .slice B2 j2 d2] 29)).alloc (.cells #[.bool m3, .slice B3 j3 d3] 29)).alloc (.cells #[.bool m4, .slice B4 j4 d4] 29)).alloc (.cells #[.bool false, .slice none 0 0] 29)).alloc (.cells #[.bool false, .slice none 0 0] 29)).heap.size = w.heap.size + 1 + 1 + 1 + 1 + 1 + 1 := by simp
 generalize (((((w.alloc (.cells #[.bool m1, .slice B1 j1 d1] 29)).alloc (.cells #[.bool m2, .slice B2 j2 d2] 29)).alloc (.cells #[.bool m3, .slice B3 j3 d3] 29)).alloc (.cells #[.bool m4, .slice B4 j4 d4] 29)).alloc (.cells #[.bool false, .slice none 0 0] 29)).alloc (.cells #[.bool false, .slice none 0 0] 29) = W at *
 have HSZ := Lib.hid hsz
 clear hsz
 have s4 := RZ.start hB4 hB5
 have hbw : ∀ w', RZ (w.heap.size + 1 + 1 + 1 + 1) 29 W w' → Below w.heap.size w w' := fun w' hk => hBW.trans (hk.1.mono (by omega))
 have HBW := Lib.hid hbw
 clear hbw
 have hS : ∀ w', RZ (w.heap.size + 1 + 1 + 1 + 1) 29 W w' → (w'.cell? ⟨w.heap.size, 0, none⟩ = some (.bool m1) ∧ w'.cell? ⟨w.heap.size, 1, none⟩ = some (.slice B1 j1 d1) ∧ w'.cell? ⟨w.heap.size + 1, 0, none⟩ = some (.bool m2) ∧ w'.cell? ⟨w.heap.size + 1, 1, none⟩ = some (.slice B2 j2 d2) ∧ w'.cell? ⟨w.heap.size + 1 + 1, 0, none⟩ = some (.bool m3) ∧ w'.cell? ⟨w.heap.size + 1 + 1, 1, none⟩ = some (.slice B3 j3 d3) ∧ w'.cell? ⟨w.heap.size + 1 + 1 + 1, 0, none⟩ = some (.bool m4) ∧ w'.cell? ⟨w.heap.size + 1 + 1 + 1, 1, none⟩ = some (.slice B4 j4 d4)) ∧ RZ (w.heap.size + 1 + 1 + 1 + 1) 29 W w' := fun w' hk => ⟨⟨(hk.blk hB0 (by omega)).cell 0, (hk.blk hB0 (by omega)).cell 1, (hk.blk hB1 (by omega)).cell 0, (hk.blk hB1 (by omega)).cell 1, (hk.blk hB2 (by omega)).cell 0, (hk.blk hB2 (by omega)).cell 1, (hk.blk hB3 (by omega)).cell 0, (hk.blk hB3 (by omega)).cell 1⟩, hk⟩
 have HS := Lib.hid hS
 clear hS
 clear hB4 hB5
 go_region_held3 (fun w' => (w'.cell? ⟨w.heap.size, 0, none⟩ = some (.bool m1) ∧ w'.cell? ⟨w.heap.size, 1, none⟩ = some (.slice B1 j1 d1) ∧ w'.cell? ⟨w.heap.size + 1, 0, none⟩ = some (.bool m2) ∧ w'.cell? ⟨w.heap.size + 1, 1, none⟩ = some (.slice B2 j2 d2) ∧ w'.cell? ⟨w.heap.size + 1 + 1, 0, none⟩ = some (.bool m3) ∧ w'.cell? ⟨w.heap.size + 1 + 1, 1, none⟩ = some (.slice B3 j3 d3) ∧ w'.cell? ⟨w.heap.size + 1 + 1 + 1, 0, none⟩ = some (.bool m4) ∧ w'.cell? ⟨w.heap.size + 1 + 1 + 1, 1, none⟩ = some (.slice B4 j4 d4)) ∧ RZ (w.heap.size + 1 + 1 + 1 + 1) 29 W w')
  (first | (with_reducible refine HS.out _ ?_; with_reducible assumption) | (with_reducible refine HS.out _ (RZ.drew ?_); with_reducible assumption) | (with_reducible refine' HS.out _ (RZ.drew (And.right ?_)); rotate_left; with_reducible assumption) | (with_reducible refine' HS.out _ (RZ.setA (And.right ?_) _ _); rotate_left; with_reducible assumption) | (with_reducible refine' HS.out _ (RZ.setB (And.right ?_) _ _); rotate_left; with_reducible assumption))
  (first
   | (go_at_call_of 56 (Value.agg #[.bool m1, .slice B1 j1 d1]); have hk := And.right ‹_ ∧ RZ (w.heap.size + 1 + 1 + 1 + 1) 29 W _›; refine (M1.out _ (HBW.out _ hk)).mono ?_; rintro e v1 ⟨X1, u1, y1, rfl, hk1, hW1, hF1, hb1⟩; have hz1 := hk.1.size; have hr1 := hk.call hb1)
   | (go_at_call_of 56 (Value.agg #[.bool m3, .slice B3 j3 d3]); have hk := And.right ‹_ ∧ RZ (w.heap.size + 1 + 1 + 1 + 1) 29 W _›; refine (M2.out _ (HBW.out _ hk)).mono ?_; rintro e v2 ⟨X2, u2, y2, rfl, hk2, hW2, hF2, hb2⟩; have hz2 := hk.1.size; have hr2 := hk.call hb2; have hW1 := hW1.below hb2)
   | (go_at_call 134; have hk := And.right ‹_ ∧ RZ (w.heap.size + 1 + 1 + 1 + 1) 29 W _›; refine (M4.out _ X1 X2 u1 u2 y1 y2 hW1 hk1 hW2 hk2).mono ?_; rintro e v4 ⟨X4, u4, y4, rfl, hk4, hW4, hF4, hb4⟩; have hz4 := hk.1.size; have hr4 := hk.call hb4)
   | (go_at_call 56; have hk := And.right ‹_ ∧ RZ (w.heap.size + 1 + 1 + 1 + 1) 29 W _›; refine (M3.out _ (HBW.out _ hk)).mono ?_; rintro e v3 ⟨X3, u3, y3, rfl, hk3, hW3, hF3, hb3⟩; have hz3 := hk.1.size; have hr3 := hk.call hb3; have hF4 := hF4.keep hW4 hb3; have hW4 := hW4.below hb3; obtain ⟨_, _, _, _, ⟨i0, i1, i2, i3⟩, i4, i5, i6, i7⟩ := hr3.four))
 have hbz : Below w.heap.size w ((((v3.setCell ⟨w.heap.size + 1 + 1 + 1 + 1, 0, none⟩ (.bool (decide (x4 < 0)))).setCell ⟨w.heap.size + 1 + 1 + 1 + 1, 1, none⟩ (.slice X4 u4 y4)).setCell ⟨w.heap.size + 1 + 1 + 1 + 1 + 1, 0, none⟩ (.bool (decide (x3 < 0)))).setCell ⟨w.heap.size + 1 + 1 + 1 + 1 + 1, 1, none⟩ (.slice X3 u3 y3)) := below_set2 (below_set2 (HBW.out _ hr3) (by omega) _ _) (by omega) _ _
 have hfin : RetZZ w x4 x3 (.returned (.tuple #[.agg #[.bool (decide (x4 < 0)), .slice X4 u4 y4], .agg #[.bool (decide (x3 < 0)), .slice X3 u3 y3]])) ((((v3.setCell ⟨w.heap.size + 1 + 1 + 1 + 1, 0, none⟩ (.bool (decide (x4 < 0)))).setCell ⟨w.heap.size + 1 + 1 + 1 + 1, 1, none⟩ (.slice X4 u4 y4)).setCell ⟨w.heap.size + 1 + 1 + 1 + 1 + 1, 0, none⟩ (.bool (decide (x3 < 0)))).setCell ⟨w.heap.size + 1 + 1 + 1 + 1 + 1, 1, none⟩ (.slice X3 u3 y3)) :=
  ⟨X4, u4, y4, X3, u3, y3, rfl, hk4, hk3, (hW4.set2two _ _ _ _ hF4 (by have := HSZ.out; omega)).1, (hW3.set2two _ _ _ _ hF3 (by have := HSZ.out; omega)).1, hbz⟩
 obtain ⟨hd1, hd2⟩ := hr3.done (.bool (decide (x4 < 0))) (.slice X4 u4 y4) (.bool (decide (x3 < 0))) (.slice X3 u3 y3)
 obtain ⟨d0, d1, -, -⟩ := hd1.two
 obtain ⟨d2, d3, -, -⟩ := hd2.two
 have D0 := Lib.hid d0
 have D1 := Lib.hid d1
 have D2 := Lib.hid d2
 have D3 := Lib.hid d3
 have HF := Lib.hid hfin
 clear hd1 hd2 d0 d1 d2 d3 hfin hbz
 go_wp2
 refine bodyPost_ret (v := _) ?_ rfl HF.out
 have d0 := D0.out
 have d1 := D1.out
 have d2 := D2.out
 have d3 := D3.out
 simp [results, Tryz.results133, go_sem, d0, d1, d2, d3]


set_option maxRecDepth 100000 in
set_option maxHeartbeats 4000000 in
theorem op_sub (M : Nat) (HO : WOK M) (m1 m2 m3 m4 : Bool) (B1 B2 B3 B4 : Option Addr) (j1 j2 j3 j4 d1 d2 d3 d4 : Nat) (r1 r2 r3 r4 : List Nat) (z1 z2 z3 z4 : Int) (w : World)
  (h1 : ZIn w m1 B1 j1 d1 r1 z1) (h2 : ZIn w m2 B2 j2 d2 r2 z2) (h3 : ZIn w m3 B3 j3 d3 r3 z3) (h4 : ZIn w m4 B4 j4 d4 r4 z4) (hb1 : (z1 * z4).natAbs < M) (hb2 : (z3 * z2).natAbs < M) :
  Calls Tryz.prog 135 #[.agg #[.bool m1, .slice B1 j1 d1], .agg #[.bool m2, .slice B2 j2 d2], .agg #[.bool m3, .slice B3 j3 d3], .agg #[.bool m4, .slice B4 j4 d4]] w (RetZZ w (z1 * z4 - z3 * z2) (z2 * z4)) := by
 have hk : ∀ w', Below w.heap.size w w' → ZIn w' m1 B1 j1 d1 r1 z1 ∧ ZIn w' m2 B2 j2 d2 r2 z2 ∧ ZIn w' m3 B3 j3 d3 r3 z3 ∧ ZIn w' m4 B4 j4 d4 r4 z4 := fun w' hb => ⟨h1.below hb, h2.below hb, h3.below hb, h4.below hb⟩
 have M1 := fun w' (hb : Below w.heap.size w w') => mul_in (hk w' hb).1 (hk w' hb).2.2.2
 have M2 := fun w' (hb : Below w.heap.size w w') => mul_in (hk w' hb).2.2.1 (hk w' hb).2.1
 have M3 := fun w' (hb : Below w.heap.size w w') => mul_in (hk w' hb).2.1 (hk w' hb).2.2.2
 have M4 := fun w' (X X' : Option Addr) (u u' v v' : Nat) (hx : Wat w' X u (digs (z1 * z4).natAbs)) (huv : u ≤ v) (hx' : Wat w' X' u' (digs (z3 * z2).natAbs)) (huv' : u' ≤ v') => sub_in HO hx huv hx' huv' hb1 hb2
 generalize z1 * z4 = x1 at *
 generalize z3 * z2 = x2 at *
 generalize z2 * z4 = x3 at *
 generalize x1 - x2 = x4 at *
 have M4 := Lib.hid M4
 have M1 := Lib.hid M1
 have M2 := Lib.hid M2
 have M3 := Lib.hid M3
 clear hk h1 h2 h3 h4 hb1 hb2
 go_enter Tryz.func135, Tryz.ntmps135
 go_wp2_with fail
 have hB0 := (((((Blk.new w 29 #[.bool m1, .slice B1 j1 d1]).alloc (.cells #[.bool m2, .slice B2 j2 d2] 29)).alloc (.cells #[.bool m3, .slice B3 j3 d3] 29)).alloc (.cells #[.bool m4, .slice B4 j4 d4] 29)).alloc (.cells #[.bool false, .slice none 0 0] 29)).alloc (.cells #[.bool false, .slice none 0 0] 29)
 have hB1 := ((((Blk.new1 w (.cells #[.bool m1, .slice B1 j1 d1] 29) 29 #[.bool m2, .slice B2 j2 d2]).alloc (.cells #[.bool m3, .slice B3 j3 d3] 29)).alloc (.cells #[.bool m4, .slice B4 j4 d4] 29)).alloc (.cells #[.bool false, .slice none 0 0] 29)).alloc (.cells #[.bool false, .slice none 0 0] 29)
 have hB2 := (((Blk.new2 w (.cells #[.bool m1, .slice B1 j1 d1] 29) (.cells #[.bool m2, .slice B2 j2 d2] 29) 29 #[.bool m3, .slice B3 j3 d3]).alloc (.cells #[.bool m4, .slice B4 j4 d4] 29)).alloc (.cells #[.bool false, .slice none 0 0] 29)).alloc (.cells #[.bool false, .slice none 0 0] 29)
 have hB3 := ((Blk.new3 w (.cells #[.bool m1, .slice B1 j1 d1] 29) (.cells #[.bool m2, .slice B2 j2 d2] 29) (.cells #[.bool m3, .slice B3 j3 d3] 29) 29 #[.bool m4, .slice B4 j4 d4]).alloc (.cells #[.bool false, .slice none 0 0] 29)).alloc (.cells #[.bool false, .slice none 0 0] 29)
 have hB4 := (Blk.new4 w (.cells #[.bool m1, .slice B1 j1 d1] 29) (.cells #[.bool m2, .slice B2 j2 d2] 29) (.cells #[.bool m3, .slice B3 j3 d3] 29) (.cells #[.bool m4, .slice B4 j4 d4] 29) 29 #[.bool false, .slice none 0 0]).alloc (.cells #[.bool false, .slice none 0 0] 29)
 have hB5 := Blk.new5 w (.cells #[.bool m1, .slice B1 j1 d1] 29) (.cells #[.bool m2, .slice B2 j2 d2] 29) (.cells #[.bool m3, .slice B3 j3 d3] 29) (.cells #[.bool m4, .slice B4 j4 d4] 29) (.cells #[.bool false, .slice none 0 0] 29) 29 #[.bool false, .slice none 0 0]
 have hBW : Below w.heap.size w ((((((w.alloc (.cells #[.bool m1, .slice B1 j1 d1] 29)).alloc (.cells #[.bool m2, .slice B2 j2 d2] 29)).alloc (.cells #[.bool m3, .slice B3 j3 d3] 29)).alloc (.cells #[.bool m4, .slice B4 j4 d4] 29)).alloc (.cells #[.bool false, .slice none 0 0] 29)).alloc (.cells #[.bool false, .slice none 0 0] 29)) := ((((((Below.refl _ _).alloc (Nat.le_refl _) _).alloc (by simp only [World.size_alloc]; omega) _).alloc (by simp only [World.size_alloc]; omega) _).alloc (by simp only [World.size_alloc]; omega) _).alloc (by simp only [World.size_alloc]; omega) _).alloc (by simp only [World.size_alloc]; omega) _
 have hsz : ((((((w.alloc (.cells #[.bool m1, .slice B1 j1 d1] 29)).alloc (.cells #[.bool m2, .slice B2 j2 d2] 29)).alloc (.cells #[.bool m3, .slice B3 j3 d3] 29)).alloc (.cells #[.bool m4, .slice B4 j4 d4] 29)).alloc (.cells #[.bool false, .slice none 0 0] 29)).alloc (.cells #[.bool false, .slice none 0 0] 29)).heap.size = w.heap.size + 1 + 1 + 1 + 1 + 1 + 1 := by simp
 generalize (((((w.alloc (.cells #[.bool m1, .slice B1 j1 d1] 29)).alloc (.cells #[.bool m2, .slice B2 j2 d2] 29)).alloc (.cells #[.bool m3, .slice B3 j3 d3] 29)).alloc (.cells #[.bool m4, .slice B4 j4 d4] 29)).alloc (.cells #[.bool false, .slice none 0 0] 29)).alloc (.cells #[.bool false, .slice none 0 0] 29) = W at *
 have HSZ := Lib.hid hsz
 clear hsz
 have s4 := RZ.start hB4 hB5
 have hbw : ∀ w', RZ (w.heap.size + 1 + 1 + 1 + 1) 29 W w' → Below w.heap.size w w' := fun w' hk => hBW.trans (hk.1.mono (by omega))
 have HBW := Lib.hid hbw
 clear hbw
 have hS : ∀ w', RZ (w.heap.size + 1 + 1 + 1 + 1) 29 W w' → (w'.cell? ⟨w.heap.size, 0, none⟩ = some (.bool m1) ∧ w'.cell? ⟨w.heap.size, 1, none⟩ = some (.slice B1 j1 d1) ∧ w'.cell? ⟨w.heap.size + 1, 0, none⟩ = some (.bool m2) ∧ w'.cell? ⟨w.heap.size + 1, 1, none⟩ = some (.slice B2 j2 d2) ∧ w'.cell? ⟨w.heap.size + 1 + 1, 0, none⟩ = some (.bool m3) ∧ w'.cell? ⟨w.heap.size + 1 + 1, 1, none⟩ = some (.slice B3 j3 d3) ∧ w'.cell? ⟨w.heap.size + 1 + 1 + 1, 0, none⟩ = some (.bool m4) ∧ w'.cell? ⟨w.heap.size + 1 + 1 + 1, 1, none⟩ = some (.slice B4 j4 d4)) ∧ RZ (w.heap.size + 1 + 1 + 1 + 1) 29 W w' := fun w' hk => ⟨⟨(hk.blk hB0 (by omega)).cell 0, (hk.blk hB0 (by omega)).cell 1, (hk.blk hB1 (by omega)).cell 0, (hk.blk hB1 (by omega)).cell 1, (hk.blk hB2 (by omega)).cell 0, (hk.blk hB2 (by omega)).cell 1, (hk.blk hB3 (by omega)).cell 0, (hk.blk hB3 (by omega)).cell 1⟩, hk⟩
 have HS := Lib.hid hS
 clear hS
 clear hB4 hB5
 go_region_held3 (fun w' => (w'.cell? ⟨w.heap.size, 0, none⟩ = some (.bool m1) ∧ w'.cell? ⟨w.heap.size, 1, none⟩ = some (.slice B1 j1 d1) ∧ w'.cell? ⟨w.heap.size + 1, 0, none⟩ = some (.bool m2) ∧ w'.cell? ⟨w.heap.size + 1, 1, none⟩ = some (.slice B2 j2 d2) ∧ w'.cell? ⟨w.heap.size + 1 + 1, 0, none⟩ = some (.bool m3) ∧ w'.cell? ⟨w.heap.size + 1 + 1, 1, none⟩ = some (.slice B3 j3 d3) ∧ w'.cell? ⟨w.heap.size + 1 + 1 + 1, 0, none⟩ = some (.bool m4) ∧ w'.cell? ⟨w.heap.size + 1 + 1 + 1, 1, none⟩ = some (.slice B4 j4 d4)) ∧ RZ (w.heap.size + 1 + 1 + 1 + 1) 29 W w')
  (first | (with_reducible refine HS.out _ ?_; with_reducible assumption) | (with_reducible refine HS.out _ (RZ.drew ?_); with_reducible assumption) | (with_reducible refine' HS.out _ (RZ.drew (And.right ?_)); rotate_left; with_reducible assumption) | (with_reducible refine' HS.out _ (RZ.setA (And.right ?_) _ _); rotate_left; with_reducible assumption) | (with_reducible refine' HS.out _ (RZ.setB (And.right ?_) _ _); rotate_left; with_reducible assumption))
  (first
   | (go_at_call_of 56 (Value.agg #[.bool m1, .slice B1 j1 d1]); have hk := And.right ‹_ ∧ RZ (w.heap.size + 1 + 1 + 1 + 1) 29 W _›; refine (M1.out _ (HBW.out _ hk)).mono ?_; rintro e v1 ⟨X1, u1, y1, rfl, hk1, hW1, hF1, hb1⟩; have hz1 := hk.1.size; have hr1 := hk.call hb1)
   | (go_at_call_of 56 (Value.agg #[.bool m3, .slice B3 j3 d3]); have hk := And.right ‹_ ∧ RZ (w.heap.size + 1 + 1 + 1 + 1) 29 W _›; refine (M2.out _ (HBW.out _ hk)).mono ?_; rintro e v2 ⟨X2, u2, y2, rfl, hk2, hW2, hF2, hb2⟩; have hz2 := hk.1.size; have hr2 := hk.call hb2; have hW1 := hW1.below hb2)
   | (go_at_call 136; have hk := And.right ‹_ ∧ RZ (w.heap.size + 1 + 1 + 1 + 1) 29 W _›; refine (M4.out _ X1 X2 u1 u2 y1 y2 hW1 hk1 hW2 hk2).mono ?_; rintro e v4 ⟨X4, u4, y4, rfl, hk4, hW4, hF4, hb4⟩; have hz4 := hk.1.size; have hr4 := hk.call hb4)
   | (go_at_call 56; have hk := And.right ‹_ ∧ RZ (w.heap.size + 1 + 1 + 1 + 1) 29 W _›; refine (M3.out _ (HBW.out _ hk)).mono ?_; rintro e v3 ⟨X3, u3, y3, rfl, hk3, hW3, hF3, hb3⟩; have hz3 := hk.1.size; have hr3 := hk.call hb3; have hF4 := hF4.keep hW4 hb3; have hW4 := hW4.below hb3; obtain ⟨_, _, _, _, ⟨i0, i1, i2, i3⟩, i4, i5, i6, i7⟩ := hr3.four))
 have hbz : Below w.heap.size w ((((v3.setCell ⟨w.heap.size + 1 + 1 + 1 + 1, 0, none⟩ (.bool (decide (x4 < 0)))).setCell ⟨w.heap.size + 1 + 1 + 1 + 1, 1, none⟩ (.slice X4 u4 y4)).setCell ⟨w.heap.size + 1 + 1 + 1 + 1 + 1, 0, none⟩ (.bool (decide (x3 < 0)))).setCell ⟨w.heap.size + 1 + 1 + 1 + 1 + 1, 1, none⟩ (.slice X3 u3 y3)) := below_set2 (below_set2 (HBW.out _ hr3) (by omega) _ _) (by omega) _ _
 have hfin : RetZZ w x4 x3 (.returned (.tuple #[.agg #[.bool (decide (x4 < 0)), .slice X4 u4 y4], .agg #[.bool (decide (x3 < 0)), .slice X3 u3 y3]])) ((((v3.setCell ⟨w.heap.size + 1 + 1 + 1 + 1, 0, none⟩ (.bool (decide (x4 < 0)))).setCell ⟨w.heap.size + 1 + 1 + 1 + 1, 1, none⟩ (.slice X4 u4 y4)).setCell ⟨w.heap.size + 1 + 1 + 1 + 1 + 1, 0, none⟩ (.bool (decide (x3 < 0)))).setCell ⟨w.heap.size + 1 + 1 + 1 + 1 + 1, 1, none⟩ (.slice X3 u3 y3)) :=
  ⟨X4, u4, y4, X3, u3, y3, rfl, hk4, hk3, (hW4.set2two _ _ _ _ hF4 (by have := HSZ.out; omega)).1, (hW3.set2two _ _ _ _ hF3 (by have := HSZ.out; omega)).1, hbz⟩
 obtain ⟨hd1, hd2⟩ := hr3.done (.bool (decide (x4 < 0))) (.slice X4 u4 y4) (.bool (decide (x3 < 0))) (.slice X3 u3 y3)
 obtain ⟨d0, d1, -, -⟩ := hd1.two
 obtain ⟨d2, d3, -, -⟩ := hd2.two
 have D0 := Lib.hid d0
 have D1 := Lib.hid d1
 have D2 := Lib.hid d2
 have D3 := Lib.hid d3
 have HF := Lib.hid hfin
 clear hd1 hd2 d0 d1 d2 d3 hfin hbz
 go_wp2
 refine bodyPost_ret (v := _) ?_ rfl HF.out
 have d0 := D0.out
 have d1 := D1.out
 have d2 := D2.out
 have d3 := D3.out
 simp [results, Tryz.results135, go_sem, d0, d1, d2, d3]


set_option maxRecDepth 100000 in
set_option maxHeartbeats 4000000 in
theorem op_mul (M : Nat) (HO : WOK M) (m1 m2 m3 m4 : Bool) (B1 B2 B3 B4 : Option Addr) (j1 j2 j3 j4 d1 d2 d3 d4 : Nat) (r1 r2 r3 r4 : List Nat) (z1 z2 z3 z4 : Int) (w : World)
  (h1 : ZIn w m1 B1 j1 d1 r1 z1) (h2 : ZIn w m2 B2 j2 d2 r2 z2) (h3 : ZIn w m3 B3 j3 d3 r3 z3) (h4 : ZIn w m4 B4 j4 d4 r4 z4) :
  Calls Tryz.prog 137 #[.agg #[.bool m1, .slice B1 j1 d1], .agg #[.bool m2, .slice B2 j2 d2], .agg #[.bool m3, .slice B3 j3 d3], .agg #[.bool m4, .slice B4 j4 d4]] w (RetZZ w (z1 * z3) (z2 * z4)) := by
 have hk : ∀ w', Below w.heap.size w w' → ZIn w' m1 B1 j1 d1 r1 z1 ∧ ZIn w' m2 B2 j2 d2 r2 z2 ∧ ZIn w' m3 B3 j3 d3 r3 z3 ∧ ZIn w' m4 B4 j4 d4 r4 z4 := fun w' hb => ⟨h1.below hb, h2.below hb, h3.below hb, h4.below hb⟩
 have M1 := fun w' (hb : Below w.heap.size w w') => mul_in (hk w' hb).1 (hk w' hb).2.2.1
 have M3 := fun w' (hb : Below w.heap.size w w') => mul_in (hk w' hb).2.1 (hk w' hb).2.2.2
 generalize z1 * z3 = x4 at *
 generalize z2 * z4 = x3 at *
 have M1 := Lib.hid M1
 have M3 := Lib.hid M3
 clear hk h1 h2 h3 h4
 go_enter Tryz.func137, Tryz.ntmps137
 go_wp2_with fail
 have hB0 := (((((Blk.new w 29 #[.bool m1, .slice B1 j1 d1]).alloc (.cells #[.bool m2, .slice B2 j2 d2] 29)).alloc (.cells #[.bool m3, .slice B3 j3 d3] 29)).alloc (.cells #[.bool m4, .slice B4 j4 d4] 29)).alloc (.cells #[.bool false, .slice none 0 0] 29)).alloc (.cells #[.bool false, .slice none 0 0] 29)
 have hB1 := ((((Blk.new1 w (.cells #[.bool m1, .slice B1 j1 d1] 29) 29 #[.bool m2, .slice B2 j2 d2]).alloc (.cells #[.bool m3, .slice B3 j3 d3] 29)).alloc (.cells #[.bool m4, .slice B4 j4 d4] 29)).alloc (.cells #[.bool false, .slice none 0 0] 29)).alloc (.cells #[.bool false, .slice none 0 0] 29)
 have hB2 := (((Blk.new2 w (.cells #[.bool m1, .slice B1 j1 d1] 29) (.cells #[.bool m2, .slice B2 j2 d2] 29) 29 #[.bool m3, .slice B3 j3 d3]).alloc (.cells #[.bool m4, .slice B4 j4 d4] 29)).alloc (.cells #[.bool false, .slice none 0 0] 29)).alloc (.cells #[.bool false, .slice none 0 0] 29)
 have hB3 := ((Blk.new3 w (.cells #[.bool m1, .slice B1 j1 d1] 29) (.cells #[.bool m2, .slice B2 j2 d2] 29) (.cells #[.bool m3, .slice B3 j3 d3] 29) 29 #[.bool m4, .slice B4 j4 d4]).alloc (.cells #[.bool false, .slice none 0 0] 29)).alloc (.cells #[.bool false, .slice none 0 0] 29)
 have hB4 := (Blk.new4 w (.cells #[.bool m1, .slice B1 j1 d1] 29) (.cells #[.bool m2, .slice B2 j2 d2] 29) (.cells #[.bool m3, .slice B3 j3 d3] 29) (.cells #[.bool m4, .slice B4 j4 d4] 29) 29 #[.bool false, .slice none 0 0]).alloc (.cells #[.bool false, .slice none 0 0] 29)
 have hB5 := Blk.new5 w (.cells #[.bool m1, .slice B1 j1 d1] 29) (.cells #[.bool m2, .slice B2 j2 d2] 29) (.cells #[.bool m3, .slice B3 j3 d3] 29) (.cells #[.bool m4, .slice B4 j4 d4] 29) (.cells #[.bool false, .slice none 0 0] 29) 29 #[.bool false, .slice none 0 0]
 have hBW : Below w.heap.size w ((((((w.alloc (.cells #[.bool m1, .slice B1 j1 d1] 29)).alloc (.cells #[.bool m2, .slice B2 j2 d2] 29)).alloc (.cells #[.bool m3, .slice B3 j3 d3] 29)).alloc (.cells #[.bool m4, .slice B4 j4 d4] 29)).alloc (.cells #[.bool false, .slice none 0 0] 29)).alloc (.cells #[.bool false, .slice none 0 0] 29)) := ((((((Below.refl _ _).alloc (Nat.le_refl _) _).alloc (by simp only [World.size_alloc]; omega) _).alloc (by simp only [World.size_alloc]; omega) _).alloc (by simp only [World.size_alloc]; omega) _).alloc (by simp only [World.size_alloc]; omega) _).alloc (by simp only [World.size_alloc]; omega) _
 have hsz : ((((((w.alloc (.cells #[.bool m1, .slice B1 j1 d1] 29)).alloc (.cells #[.bool m2, .slice B2 j2 d2] 29)).alloc (.cells #[.bool m3, .slice B3 j3 d3] 29)).alloc (.cells #[.bool m4, .slice B4 j4 d4] 29)).alloc (.cells #[.bool false, .slice none 0 0] 29)).alloc (.cells #[.bool false, .slice none 0 0] 29)).heap.size = w.heap.size + 1 + 1 + 1 + 1 + 1 + 1 := by simp
 generalize (((((w.alloc (.cells #[.bool m1, .slice B1 j1 d1] 29)).alloc (.cells #[.bool m2, .slice B2 j2 d2] 29)).alloc (.cells #[.bool m3, .slice B3 j3 d3] 29)).alloc (.cells #[.bool m4, .slice B4 j4 d4] 29)).alloc (.cells #[.bool false, .slice none 0 0] 29)).alloc (.cells #[.bool false, .slice none 0 0] 29) = W at *
 have HSZ := Lib.hid hsz
 clear hsz
 have s4 := RZ.start hB4 hB5
 have hbw : ∀ w', RZ (w.heap.size + 1 + 1 + 1 + 1) 29 W w' → Below w.heap.size w w' := fun w' hk => hBW.trans (hk.1.mono (by omega))
 have HBW := Lib.hid hbw
 clear hbw
 have hS : ∀ w', RZ (w.heap.size + 1 + 1 + 1 + 1) 29 W w' → (w'.cell? ⟨w.heap.size, 0, none⟩ = some (.bool m1) ∧ w'.cell? ⟨w.heap.size, 1, none⟩ = some (.slice B1 j1 d1) ∧ w'.cell? ⟨w.heap.size + 1, 0, none⟩ = some (.bool m2) ∧ w'.cell? ⟨w.heap.size + 1, 1, none⟩ = some (.slice B2 j2 d2) ∧ w'.cell? ⟨w.heap.size + 1 + 1, 0, none⟩ = some (.bool m3) ∧ w'.cell? ⟨w.heap.size + 1 + 1, 1, none⟩ = some (.slice B3 j3 d3) ∧ w'.cell? ⟨w.heap.size + 1 + 1 + 1, 0, none⟩ = some (.bool m4) ∧ w'.cell? ⟨w.heap.size + 1 + 1 + 1, 1, none⟩ = some (.slice B4 j4 d4)) ∧ RZ (w.heap.size + 1 + 1 + 1 + 1) 29 W w' := fun w' hk => ⟨⟨(hk.blk hB0 (by omega)).cell 0, (hk.blk hB0 (by omega)).cell 1, (hk.blk hB1 (by omega)).cell 0, (hk.blk hB1 (by omega)).cell 1, (hk.blk hB2 (by omega)).cell 0, (hk.blk hB2 (by omega)).cell 1, (hk.blk hB3 (by omega)).cell 0, (hk.blk hB3 (by omega)).cell 1⟩, hk⟩
 have HS := Lib.hid hS
 clear hS
 clear hB4 hB5
 go_region_held3 (fun w' => (w'.cell? ⟨w.heap.size, 0, none⟩ = some (.bool m1) ∧ w'.cell? ⟨w.heap.size, 1, none⟩ = some (.slice B1 j1 d1) ∧ w'.cell? ⟨w.heap.size + 1, 0, none⟩ = some (.bool m2) ∧ w'.cell? ⟨w.heap.size + 1, 1, none⟩ = some (.slice B2 j2 d2) ∧ w'.cell? ⟨w.heap.size + 1 + 1, 0, none⟩ = some (.bool m3) ∧ w'.cell? ⟨w.heap.size + 1 + 1, 1, none⟩ = some (.slice B3 j3 d3) ∧ w'.cell? ⟨w.heap.size + 1 + 1 + 1, 0, none⟩ = some (.bool m4) ∧ w'.cell? ⟨w.heap.size + 1 + 1 + 1, 1, none⟩ = some (.slice B4 j4 d4)) ∧ RZ (w.heap.size + 1 + 1 + 1 + 1) 29 W w')
  (first | (with_reducible refine HS.out _ ?_; with_reducible assumption) | (with_reducible refine HS.out _ (RZ.drew ?_); with_reducible assumption) | (with_reducible refine' HS.out _ (RZ.drew (And.right ?_)); rotate_left; with_reducible assumption) | (with_reducible refine' HS.out _ (RZ.setA (And.right ?_) _ _); rotate_left; with_reducible assumption) | (with_reducible refine' HS.out _ (RZ.setB (And.right ?_) _ _); rotate_left; with_reducible assumption))
  (first
   | (go_at_call_of 56 (Value.agg #[.bool m1, .slice B1 j1 d1]); have hk := And.right ‹_ ∧ RZ (w.heap.size + 1 + 1 + 1 + 1) 29 W _›; refine (M1.out _ (HBW.out _ hk)).mono ?_; rintro e v4 ⟨X4, u4, y4, rfl, hk4, hW4, hF4, hb4⟩; have hz4 := hk.1.size; have hr4 := hk.call hb4)
   | (go_at_call 56; have hk := And.right ‹_ ∧ RZ (w.heap.size + 1 + 1 + 1 + 1) 29 W _›; refine (M3.out _ (HBW.out _ hk)).mono ?_; rintro e v3 ⟨X3, u3, y3, rfl, hk3, hW3, hF3, hb3⟩; have hz3 := hk.1.size; have hr3 := hk.call hb3; have hF4 := hF4.keep hW4 hb3; have hW4 := hW4.below hb3; obtain ⟨_, _, _, _, ⟨i0, i1, i2, i3⟩, i4, i5, i6, i7⟩ := hr3.four))
 have hbz : Below w.heap.size w ((((v3.setCell ⟨w.heap.size + 1 + 1 + 1 + 1, 0, none⟩ (.bool (decide (x4 < 0)))).setCell ⟨w.heap.size + 1 + 1 + 1 + 1, 1, none⟩ (.slice X4 u4 y4)).setCell ⟨w.heap.size + 1 + 1 + 1 + 1 + 1, 0, none⟩ (.bool (decide (x3 < 0)))).setCell ⟨w.heap.size + 1 + 1 + 1 + 1 + 1, 1, none⟩ (.slice X3 u3 y3)) := below_set2 (below_set2 (HBW.out _ hr3) (by omega) _ _) (by omega) _ _
 have hfin : RetZZ w x4 x3 (.returned (.tuple #[.agg #[.bool (decide (x4 < 0)), .slice X4 u4 y4], .agg #[.bool (decide (x3 < 0)), .slice X3 u3 y3]])) ((((v3.setCell ⟨w.heap.size + 1 + 1 + 1 + 1, 0, none⟩ (.bool (decide (x4 < 0)))).setCell ⟨w.heap.size + 1 + 1 + 1 + 1, 1, none⟩ (.slice X4 u4 y4)).setCell ⟨w.heap.size + 1 + 1 + 1 + 1 + 1, 0, none⟩ (.bool (decide (x3 < 0)))).setCell ⟨w.heap.size + 1 + 1 + 1 + 1 + 1, 1, none⟩ (.slice X3 u3 y3)) :=
  ⟨X4, u4, y4, X3, u3, y3, rfl, hk4, hk3, (hW4.set2two _ _ _ _ hF4 (by have := HSZ.out; omega)).1, (hW3.set2two _ _ _ _ hF3 (by have := HSZ.out; omega)).1, hbz⟩
 obtain ⟨hd1, hd2⟩ := hr3.done (.bool (decide (x4 < 0))) (.slice X4 u4 y4) (.bool (decide (x3 < 0))) (.slice X3 u3 y3)
 obtain ⟨d0, d1, -, -⟩ := hd1.two
 obtain ⟨d2, d3, -, -⟩ := hd2.two
 have D0 := Lib.hid d0
 have D1 := Lib.hid d1
 have D2 := Lib.hid d2
 have D3 := Lib.hid d3
 have HF := Lib.hid hfin
 clear hd1 hd2 d0 d1 d2 d3 hfin hbz
 go_wp2
 refine bodyPost_ret (v := _) ?_ rfl HF.out
 have d0 := D0.out
 have d1 := D1.out
 have d2 := D2.out
 have d3 := D3.out
 simp [results, Tryz.results137, go_sem, d0, d1, d2, d3]

end Go.Proofs.YtodkhjihkkmplaaGreat

namespace Go.Proofs.YtodkhjihkkmplaaGreat
set_option linter.unusedVariables false
set_option linter.unusedSimpArgs false
open Go.RowKit
open Wd

/-- All blocks but g are as in W, and g is still a box of four cells. -/
def RG4 (g : Nat) (t : TypeId) (W w' : World) : Prop := W.grownBy w' (some g) ∧ ∃ x y z u, Blk w' g t #[x, y, z, u]
section
variable {g : Nat} {t : TypeId} {W w w' : World}
theorem RG4.start {x y z u : Value} (h : Blk W g t #[x, y, z, u]) : RG4 g t W W := ⟨⟨rfl, rfl, rfl, Nat.le_refl _, fun _ _ _ => rfl⟩, x, y, z, u, h⟩
theorem RG4.drew (h : RG4 g t W w) : RG4 g t W w.drew := ⟨⟨h.1.os, h.1.tape, h.1.output, h.1.size, h.1.block⟩, h.2⟩
theorem RG4.call (h : RG4 g t W w) (hb : Below w.heap.size w w') : RG4 g t W w' := by
 obtain ⟨h1, x, y, z, u, h2⟩ := h
 exact ⟨⟨hb.os.trans h1.os, hb.tape.trans h1.tape, hb.output.trans h1.output, Nat.le_trans h1.size hb.size, fun k hk hne => (hb.block k (Nat.lt_of_lt_of_le hk h1.size)).trans (h1.block k hk hne)⟩, x, y, z, u, h2.below hb h2.lt⟩
theorem RG4.set (h : RG4 g t W w) (a b c d : Value) : RG4 g t W ((((w.setCell ⟨g, 0, none⟩ a).setCell ⟨g, 1, none⟩ b).setCell ⟨g, 2, none⟩ c).setCell ⟨g, 3, none⟩ d) := by
 obtain ⟨h1, x, y, z, u, h2⟩ := h
 refine ⟨⟨h1.os, h1.tape, h1.output, by simpa [World.setCell] using h1.size, fun k hk hne => ?_⟩, a, b, c, d, h2.set4 a b c d⟩
 have hkg : k ≠ g := fun e => hne (by rw [e])
 rw [Below.heap_setCell _ _ _ _ (by simpa using hkg), Below.heap_setCell _ _ _ _ (by simpa using hkg), Below.heap_setCell _ _ _ _ (by simpa using hkg), Below.heap_setCell _ _ _ _ (by simpa using hkg)]
 exact h1.block k hk hne
theorem RG4.blk {g' : Nat} {t' : TypeId} {cs : Array Value} (h : RG4 g t W w) (hg : Blk W g' t' cs) (hne : g' ≠ g) : Blk w g' t' cs := (h.1.block g' hg.lt (fun e => hne (by injection e))).trans hg
theorem RG4.four (h : RG4 g t W w) : ∃ x y z u, w.cell? ⟨g, 0, none⟩ = some x ∧ w.cell? ⟨g, 1, none⟩ = some y ∧ w.cell? ⟨g, 2, none⟩ = some z ∧ w.cell? ⟨g, 3, none⟩ = some u ∧
  w.frozen? ⟨g, 0, none⟩ = false ∧ w.frozen? ⟨g, 1, none⟩ = false ∧ w.frozen? ⟨g, 2, none⟩ = false ∧ w.frozen? ⟨g, 3, none⟩ = false := by
 obtain ⟨_, x, y, z, u, h2⟩ := h
 exact ⟨x, y, z, u, h2.four⟩
theorem RG4.below {B : Nat} (h : RG4 g t W w) (hB : B ≤ W.heap.size) (hg : B ≤ g) : Below B W w :=
 ⟨h.1.os, h.1.tape, h.1.output, h.1.size, fun k hk => h.1.block k (by omega) (fun e => by injection e with e; omega)⟩
theorem RG4.rs (h : RG4 g t W w) (hg : g ≤ W.heap.size) : RS4 g t W w := ⟨h.below hg (Nat.le_refl _), h.2⟩
end

/-- A rational operand in memory: four cells that read as numerator and denominator. -/
def QIn (w : World) (neg : Bool) (A : Option Addr) (n c : Nat) (neg' : Bool) (A' : Option Addr) (n' c' : Nat) (na da : Int) : Prop :=
 ∃ l l', Wat w A n l ∧ Wat w A' n' l' ∧ n ≤ c ∧ n' ≤ c' ∧ n ≤ 10000000000 ∧ n' ≤ 10000000000 ∧ sg neg (val l) = na ∧ sg neg' (val l') = da
theorem QIn.below {w w' : World} {neg neg' : Bool} {A A' : Option Addr} {n c n' c' : Nat} {na da : Int} (h : QIn w neg A n c neg' A' n' c' na da) (hb : Below w.heap.size w w') : QIn w' neg A n c neg' A' n' c' na da := by
 obtain ⟨l, l', h1, h2, h3⟩ := h
 exact ⟨l, l', h1.below hb, h2.below hb, h3⟩
theorem parts_in {w : World} {neg neg' : Bool} {A A' : Option Addr} {n c n' c' : Nat} {na da : Int} (h : QIn w neg A n c neg' A' n' c' na da) :
  Calls Tryz.prog 52 #[.agg #[.bool neg, .slice A n c, .bool neg', .slice A' n' c']] w (RetParts w (qnum na da) (qden da)) := by
 obtain ⟨l, l', h1, h2, h3, h4, h5, h6, rfl, rfl⟩ := h
 exact parts_any neg neg' A A' n n' c c' l l' w h1 h2 h3 h4 h5 h6
theorem short_in {w : World} {neg neg' : Bool} {A A' : Option Addr} {n c n' c' : Nat} {na da : Int} (h : QIn w neg A n c neg' A' n' c' na da) :
  Calls Tryz.prog 58 #[.agg #[.bool neg, .slice A n c, .bool neg', .slice A' n' c']] w (ShortPost w na da) := by
 obtain ⟨l, l', h1, h2, h3, h4, h5, h6, rfl, rfl⟩ := h
 exact short_any neg neg' A A' n n' c c' l l' w h1 h2 h3 h4 h5 h6
theorem reduce_in {M : Nat} (HO : WOK M) {w : World} {z1 z2 : Int} {B1 B2 : Option Addr} {j1 d1 j2 d2 : Nat} (h1 : Wat w B1 j1 (digs z1.natAbs)) (hd1 : j1 ≤ d1) (h2 : Wat w B2 j2 (digs z2.natAbs)) (hd2 : j2 ≤ d2) (hz1 : z1.natAbs < M) (hz2 : z2.natAbs < M) (hpos : 0 < z2) :
  Calls Tryz.prog 61 #[.agg #[.bool (decide (z1 < 0)), .slice B1 j1 d1], .agg #[.bool (decide (z2 < 0)), .slice B2 j2 d2]] w (RetQ w (mkRat z1 z2.natAbs)) := by
 have := reduce_any M HO (decide (z1 < 0)) (decide (z2 < 0)) B1 B2 j1 j2 d1 d2 _ _ w h1 h2 hd1 hd2 (by rw [← h1.1]; exact HO.len _ hz1) (by rw [← h2.1]; exact HO.len _ hz2) (by rw [val_digs]; exact hz1) (by rw [val_digs]; exact hz2) (by rw [val_digs, sg_self]; exact hpos)
 rwa [val_digs, val_digs, sg_self] at this


set_option maxRecDepth 100000 in
set_option maxHeartbeats 8000000 in
theorem calc_add (M : Nat) (HO : WOK M) (an an' bn bn' : Bool) (aA aA' bA bA' : Option Addr) (ak ac ak' ac' bk bc bk' bc' : Nat) (na da nb db : Int) (w : World)
  (ha : QIn w an aA ak ac an' aA' ak' ac' na da) (hb : QIn w bn bA bk bc bn' bA' bk' bc' nb db) (hm1 : (qnum na da * qden db).natAbs < M) (hm2 : (qnum nb db * qden da).natAbs < M) (hm3 : (qnum na da * qden db + qnum nb db * qden da).natAbs < M) (hm4 : (qden da * qden db).natAbs < M) :
  Calls Tryz.prog 60 #[.int .u8 43, .agg #[.bool an, .slice aA ak ac, .bool an', .slice aA' ak' ac'], .agg #[.bool bn, .slice bA bk bc, .bool bn', .slice bA' bk' bc']] w (RetQ w (mkRat (qnum na da * qden db + qnum nb db * qden da) (qden da * qden db).natAbs)) := by
 have hp : 0 < qden da * qden db := Int.mul_pos (qden_pos da) (qden_pos db)
 have hO := fun (m1 m2 m3 m4 : Bool) (B1 B2 B3 B4 : Option Addr) (j1 j2 j3 j4 d1 d2 d3 d4 : Nat) (r1 r2 r3 r4 : List Nat) (w : World)
  (h1 : ZIn w m1 B1 j1 d1 r1 (qnum na da)) (h2 : ZIn w m2 B2 j2 d2 r2 (qden da)) (h3 : ZIn w m3 B3 j3 d3 r3 (qnum nb db)) (h4 : ZIn w m4 B4 j4 d4 r4 (qden db)) => op_add M HO m1 m2 m3 m4 B1 B2 B3 B4 j1 j2 j3 j4 d1 d2 d3 d4 r1 r2 r3 r4 _ _ _ _ w h1 h2 h3 h4 hm1 hm2
 have hR := fun (w : World) (B1 B2 : Option Addr) (j1 d1 j2 d2 : Nat) (h1 : Wat w B1 j1 (digs (qnum na da * qden db + qnum nb db * qden da).natAbs)) (hd1 : j1 ≤ d1) (h2 : Wat w B2 j2 (digs (qden da * qden db).natAbs)) (hd2 : j2 ≤ d2) => reduce_in HO h1 hd1 h2 hd2 hm3 hm4 hp
 have P1 := fun W hW => parts_in (w := W) (h := ha.below (w' := W) hW)
 have P2 := fun W hW => parts_in (w := W) (h := hb.below (w' := W) hW)
 generalize mkRat (qnum na da * qden db + qnum nb db * qden da) (qden da * qden db).natAbs = q at *
 generalize qnum na da * qden db + qnum nb db * qden da = zn at *
 generalize qden da * qden db = zd at *
 generalize qnum na da = x1 at *
 generalize qden da = x2 at *
 generalize qnum nb db = x3 at *
 generalize qden db = x4 at *
 have HO' := Lib.hid hO
 have HR := Lib.hid hR
 have P1 := Lib.hid P1
 have P2 := Lib.hid P2
 have hfld := field_op
 clear hO hR hm3 hm4 hp ha hb HO hm1 hm2
 go_enter Tryz.func60, Tryz.ntmps60
 go_wp2_with fail
 obtain ⟨hB0, hB1, hB2, hBW, hsz⟩ := pre3 w 31 #[.bool an, .slice aA ak ac, .bool an', .slice aA' ak' ac'] 31 #[.bool bn, .slice bA bk bc, .bool bn', .slice bA' bk' bc'] 31 #[.bool false, .slice none 0 0, .bool false, .slice none 0 0]
 generalize ((w.alloc (.cells #[.bool an, .slice aA ak ac, .bool an', .slice aA' ak' ac'] 31)).alloc (.cells #[.bool bn, .slice bA bk bc, .bool bn', .slice bA' bk' bc'] 31)).alloc (.cells #[.bool false, .slice none 0 0, .bool false, .slice none 0 0] 31) = W at *
 have HSZ := Lib.hid hsz
 clear hsz
 refine (P1.out W hBW).mono ?_
 rintro e w1 ⟨m1, B1, j1, d1, r1, m2, B2, j2, d2, r2, rfl, hj1, hj2, hl1, hl2, hW1, hW2, hs1, hs2, hb1⟩
 have hB0 := hB0.below hb1 hB0.lt
 have hB1 := hB1.below hb1 hB1.lt
 have hB2 := hB2.below hb1 hB2.lt
 have hBW : Below w.heap.size w w1 := hBW.trans (hb1.mono hBW.size)
 have Z1 : ZIn w1 m1 B1 j1 d1 r1 x1 := ⟨hW1, hj1, hl1, hs1⟩
 have Z2 : ZIn w1 m2 B2 j2 d2 r2 x2 := ⟨hW2, hj2, hl2, hs2⟩
 have hz1 : w.heap.size + 1 + 1 + 1 ≤ w1.heap.size := hB2.lt
 have hB1 := (hB1.alloc (.cells #[.bool m1, .slice B1 j1 d1] 29)).alloc (.cells #[.bool m2, .slice B2 j2 d2] 29)
 have hB2 := (hB2.alloc (.cells #[.bool m1, .slice B1 j1 d1] 29)).alloc (.cells #[.bool m2, .slice B2 j2 d2] 29)
 obtain ⟨c0, c1, c2, c3, -, -, -, -⟩ := hB1.four
 clear hW1 hW2 hs1 hs2 hb1 hB0 HSZ P1
 go_wp2_with fail
 clear c0 c1 c2 c3
 have hC0 := (Blk.new w1 29 #[.bool m1, .slice B1 j1 d1]).alloc (.cells #[.bool m2, .slice B2 j2 d2] 29)
 have hC1 := Blk.new1 w1 (.cells #[.bool m1, .slice B1 j1 d1] 29) 29 #[.bool m2, .slice B2 j2 d2]
 have hBa : Below w1.heap.size w1 ((w1.alloc (.cells #[.bool m1, .slice B1 j1 d1] 29)).alloc (.cells #[.bool m2, .slice B2 j2 d2] 29)) := ((Below.refl _ _).alloc (Nat.le_refl _) _).alloc (by simp only [World.size_alloc]; omega) _
 have hsz : ((w1.alloc (.cells #[.bool m1, .slice B1 j1 d1] 29)).alloc (.cells #[.bool m2, .slice B2 j2 d2] 29)).heap.size = w1.heap.size + 1 + 1 := by simp
 generalize (w1.alloc (.cells #[.bool m1, .slice B1 j1 d1] 29)).alloc (.cells #[.bool m2, .slice B2 j2 d2] 29) = Wa at *
 have HSA := Lib.hid hsz
 clear hsz
 have hBa' : Below w.heap.size w Wa := hBW.trans (hBa.mono hBW.size)
 have Z1 := Z1.below hBa
 have Z2 := Z2.below hBa
 refine (P2.out Wa hBa').mono ?_
 rintro e w2 ⟨m3, B3, j3, d3, r3, m4, B4, j4, d4, r4, rfl, hj3, hj4, hl3, hl4, hW3, hW4, hs3, hs4, hb2⟩
 have hB2 := hB2.below hb2 hB2.lt
 have hC0 := hC0.below hb2 hC0.lt
 have hC1 := hC1.below hb2 hC1.lt
 have Z1 := Z1.below hb2
 have Z2 := Z2.below hb2
 have hz2 : Wa.heap.size ≤ w2.heap.size := hb2.size
 have hBb : Below w.heap.size w w2 := hBa'.trans (hb2.mono hBa'.size)
 have Z3 : ZIn w2 m3 B3 j3 d3 r3 x3 := ⟨hW3, hj3, hl3, hs3⟩
 have Z4 : ZIn w2 m4 B4 j4 d4 r4 x4 := ⟨hW4, hj4, hl4, hs4⟩
 have hza : w1.heap.size + 1 + 1 ≤ w2.heap.size := by have := HSA.out; omega
 clear hW3 hW4 hs3 hs4 hb2 hB1 P2 hBa hBa' hBW hz2
 go_wp2_with fail
 have hB2 := (hB2.alloc (.cells #[.bool m3, .slice B3 j3 d3] 29)).alloc (.cells #[.bool m4, .slice B4 j4 d4] 29)
 have hC0 := (hC0.alloc (.cells #[.bool m3, .slice B3 j3 d3] 29)).alloc (.cells #[.bool m4, .slice B4 j4 d4] 29)
 have hC1 := (hC1.alloc (.cells #[.bool m3, .slice B3 j3 d3] 29)).alloc (.cells #[.bool m4, .slice B4 j4 d4] 29)
 have hD0 := (Blk.new w2 29 #[.bool m3, .slice B3 j3 d3]).alloc (.cells #[.bool m4, .slice B4 j4 d4] 29)
 have hD1 := Blk.new1 w2 (.cells #[.bool m3, .slice B3 j3 d3] 29) 29 #[.bool m4, .slice B4 j4 d4]
 have hBc : Below w2.heap.size w2 ((w2.alloc (.cells #[.bool m3, .slice B3 j3 d3] 29)).alloc (.cells #[.bool m4, .slice B4 j4 d4] 29)) := ((Below.refl _ _).alloc (Nat.le_refl _) _).alloc (by simp only [World.size_alloc]; omega) _
 have hsz : ((w2.alloc (.cells #[.bool m3, .slice B3 j3 d3] 29)).alloc (.cells #[.bool m4, .slice B4 j4 d4] 29)).heap.size = w2.heap.size + 1 + 1 := by simp
 generalize (w2.alloc (.cells #[.bool m3, .slice B3 j3 d3] 29)).alloc (.cells #[.bool m4, .slice B4 j4 d4] 29) = Wb at *
 have HSB := Lib.hid hsz
 clear hsz
 have hBW : Below w.heap.size w Wb := hBb.trans (hBc.mono hBb.size)
 have hZ : ∀ w', Below Wb.heap.size Wb w' → ZIn w' m1 B1 j1 d1 r1 x1 ∧ ZIn w' m2 B2 j2 d2 r2 x2 ∧ ZIn w' m3 B3 j3 d3 r3 x3 ∧ ZIn w' m4 B4 j4 d4 r4 x4 := fun w' hb => ⟨(Z1.below hBc).below hb, (Z2.below hBc).below hb, (Z3.below hBc).below hb, (Z4.below hBc).below hb⟩
 have HZ := Lib.hid hZ
 have hzb : w2.heap.size + 1 + 1 = Wb.heap.size := HSB.out.symm
 have HZB := Lib.hid hzb
 clear hZ Z1 Z2 Z3 Z4 hBc hBb HSB hzb
 have s4 := RG4.start hB2
 have s5 := Kp.refl Wb
 have hS : ∀ w', RG4 (w.heap.size + 1 + 1) 31 Wb w' → (w'.cell? ⟨w1.heap.size, 0, none⟩ = some (.bool m1) ∧ w'.cell? ⟨w1.heap.size, 1, none⟩ = some (.slice B1 j1 d1) ∧ w'.cell? ⟨w1.heap.size + 1, 0, none⟩ = some (.bool m2) ∧ w'.cell? ⟨w1.heap.size + 1, 1, none⟩ = some (.slice B2 j2 d2) ∧ w'.cell? ⟨w2.heap.size, 0, none⟩ = some (.bool m3) ∧ w'.cell? ⟨w2.heap.size, 1, none⟩ = some (.slice B3 j3 d3) ∧ w'.cell? ⟨w2.heap.size + 1, 0, none⟩ = some (.bool m4) ∧ w'.cell? ⟨w2.heap.size + 1, 1, none⟩ = some (.slice B4 j4 d4)) ∧ RG4 (w.heap.size + 1 + 1) 31 Wb w' := fun w' hk => ⟨⟨(hk.blk hC0 (by omega)).cell 0, (hk.blk hC0 (by omega)).cell 1, (hk.blk hC1 (by omega)).cell 0, (hk.blk hC1 (by omega)).cell 1, (hk.blk hD0 (by omega)).cell 0, (hk.blk hD0 (by omega)).cell 1, (hk.blk hD1 (by omega)).cell 0, (hk.blk hD1 (by omega)).cell 1⟩, hk⟩
 have HS := Lib.hid hS
 clear hS
 clear hB2 hC0 hC1 hD0 hD1
 go_region_held3 (fun w' => (w'.cell? ⟨w1.heap.size, 0, none⟩ = some (.bool m1) ∧ w'.cell? ⟨w1.heap.size, 1, none⟩ = some (.slice B1 j1 d1) ∧ w'.cell? ⟨w1.heap.size + 1, 0, none⟩ = some (.bool m2) ∧ w'.cell? ⟨w1.heap.size + 1, 1, none⟩ = some (.slice B2 j2 d2) ∧ w'.cell? ⟨w2.heap.size, 0, none⟩ = some (.bool m3) ∧ w'.cell? ⟨w2.heap.size, 1, none⟩ = some (.slice B3 j3 d3) ∧ w'.cell? ⟨w2.heap.size + 1, 0, none⟩ = some (.bool m4) ∧ w'.cell? ⟨w2.heap.size + 1, 1, none⟩ = some (.slice B4 j4 d4)) ∧ RG4 (w.heap.size + 1 + 1) 31 Wb w')
  (first | (with_reducible refine HS.out _ ?_; with_reducible assumption) | (with_reducible refine HS.out _ (RG4.drew ?_); with_reducible assumption) | (with_reducible refine' HS.out _ (RG4.drew (And.right ?_)); rotate_left; with_reducible assumption) | (with_reducible refine' HS.out _ (RG4.set (And.right ?_) _ _ _ _); rotate_left; with_reducible assumption))
  (first
   | (go_at_call 90; have hk := And.right ‹_ ∧ RG4 (w.heap.size + 1 + 1) 31 Wb _›; refine (operations_any _).mono ?_; rintro e v1 ⟨rfl, hmap, hb1⟩; have hr1 := hk.call hb1; have hlk := look_add v1 Wb.heap.size hmap; have hp1 : Kp Wb v1 := Kp.trans (Kp.drew s5) hb1; clear hmap hb1)
   | (go_at_call 133; have hk := And.right ‹_ ∧ RG4 (w.heap.size + 1 + 1) 31 Wb _›; refine (HO'.out m1 m2 m3 m4 B1 B2 B3 B4 j1 j2 j3 j4 d1 d2 d3 d4 r1 r2 r3 r4 _ (HZ.out _ hp1).1 (HZ.out _ hp1).2.1 (HZ.out _ hp1).2.2.1 (HZ.out _ hp1).2.2.2).mono ?_; rintro e v2 ⟨X1, u1, y1, X2, u2, y2, rfl, hk1, hk2, hX1, hX2, hb2⟩; have hr2 := hk.call hb2; have hp2 : Kp Wb v2 := Kp.trans hp1 hb2; clear hb2)
   | (go_at_call 61; have hk := And.right ‹_ ∧ RG4 (w.heap.size + 1 + 1) 31 Wb _›; refine (HR.out _ X1 X2 u1 y1 u2 y2 hX1 hk1 hX2 hk2).mono ?_; rintro e v3 ⟨A3, k3, c3, A4, k4, c4, rfl, hk3, hk4, hW3, hW4, hF3, hF4, hb3⟩; have hz3 := Below.size hp2; have hr3 := hk.call hb3; obtain ⟨_, _, _, _, i0, i1, i2, i3, i4, i5, i6, i7⟩ := hr3.four))
 have hgw : w.heap.size + 1 + 1 < Wb.heap.size := by have := HZB.out; omega
 have hr4 := hr3.rs (Nat.le_of_lt hgw)
 have HSZ : Hid (True) := trivial
 have hfin := retQ_close hBW (by omega) (by have := HSZ.out; omega) hr4 hk3 hk4 hW3 hW4 hF3 hF4
 obtain ⟨d0, d1, d2, d3, -, -, -, -⟩ := (hr4.done (.bool (decide ((q).num < 0))) (.slice A3 k3 c3) (.bool false) (.slice A4 k4 c4)).four
 have HF := Lib.hid hfin
 clear hfin hr4 s5 hp1 hp2
 go_wp2
 refine bodyPost_ret (v := .agg #[.bool (decide ((q).num < 0)), .slice A3 k3 c3, .bool false, .slice A4 k4 c4]) ?_ rfl HF.out
 simp [results, Tryz.results60, go_sem, d0, d1, d2, d3]


set_option maxRecDepth 100000 in
set_option maxHeartbeats 8000000 in
theorem calc_sub (M : Nat) (HO : WOK M) (an an' bn bn' : Bool) (aA aA' bA bA' : Option Addr) (ak ac ak' ac' bk bc bk' bc' : Nat) (na da nb db : Int) (w : World)
  (ha : QIn w an aA ak ac an' aA' ak' ac' na da) (hb : QIn w bn bA bk bc bn' bA' bk' bc' nb db) (hm1 : (qnum na da * qden db).natAbs < M) (hm2 : (qnum nb db * qden da).natAbs < M) (hm3 : (qnum na da * qden db - qnum nb db * qden da).natAbs < M) (hm4 : (qden da * qden db).natAbs < M) :
  Calls Tryz.prog 60 #[.int .u8 45, .agg #[.bool an, .slice aA ak ac, .bool an', .slice aA' ak' ac'], .agg #[.bool bn, .slice bA bk bc, .bool bn', .slice bA' bk' bc']] w (RetQ w (mkRat (qnum na da * qden db - qnum nb db * qden da) (qden da * qden db).natAbs)) := by
 have hp : 0 < qden da * qden db := Int.mul_pos (qden_pos da) (qden_pos db)
 have hO := fun (m1 m2 m3 m4 : Bool) (B1 B2 B3 B4 : Option Addr) (j1 j2 j3 j4 d1 d2 d3 d4 : Nat) (r1 r2 r3 r4 : List Nat) (w : World)
  (h1 : ZIn w m1 B1 j1 d1 r1 (qnum na da)) (h2 : ZIn w m2 B2 j2 d2 r2 (qden da)) (h3 : ZIn w m3 B3 j3 d3 r3 (qnum nb db)) (h4 : ZIn w m4 B4 j4 d4 r4 (qden db)) => op_sub M HO m1 m2 m3 m4 B1 B2 B3 B4 j1 j2 j3 j4 d1 d2 d3 d4 r1 r2 r3 r4 _ _ _ _ w h1 h2 h3 h4 hm1 hm2
 have hR := fun (w : World) (B1 B2 : Option Addr) (j1 d1 j2 d2 : Nat) (h1 : Wat w B1 j1 (digs (qnum na da * qden db - qnum nb db * qden da).natAbs)) (hd1 : j1 ≤ d1) (h2 : Wat w B2 j2 (digs (qden da * qden db).natAbs)) (hd2 : j2 ≤ d2) => reduce_in HO h1 hd1 h2 hd2 hm3 hm4 hp
 have P1 := fun W hW => parts_in (w := W) (h := ha.below (w' := W) hW)
 have P2 := fun W hW => parts_in (w := W) (h := hb.below (w' := W) hW)
 generalize mkRat (qnum na da * qden db - qnum nb db * qden da) (qden da * qden db).natAbs = q at *
 generalize qnum na da * qden db - qnum nb db * qden da = zn at *
 generalize qden da * qden db = zd at *
 generalize qnum na da = x1 at *
 generalize qden da = x2 at *
 generalize qnum nb db = x3 at *
 generalize qden db = x4 at *
 have HO' := Lib.hid hO
 have HR := Lib.hid hR
 have P1 := Lib.hid P1
 have P2 := Lib.hid P2
 have hfld := field_op
 clear hO hR hm3 hm4 hp ha hb HO hm1 hm2
 go_enter Tryz.func60, Tryz.ntmps60
 go_wp2_with fail
 obtain ⟨hB0, hB1, hB2, hBW, hsz⟩ := pre3 w 31 #[.bool an, .slice aA ak ac, .bool an', .slice aA' ak' ac'] 31 #[.bool bn, .slice bA bk bc, .bool bn', .slice bA' bk' bc'] 31 #[.bool false, .slice none 0 0, .bool false, .slice none 0 0]
 generalize ((w.alloc (.cells #[.bool an, .slice aA ak ac, .bool an', .slice aA' ak' ac'] 31)).alloc (.cells #[.bool bn, .slice bA bk bc, .bool bn', .slice bA' bk' bc'] 31)).alloc (.cells #[.bool false, .slice none 0 0, .bool false, .slice none 0 0] 31) = W at *
 have HSZ := Lib.hid hsz
 clear hsz
 refine (P1.out W hBW).mono ?_
 rintro e w1 ⟨m1, B1, j1, d1, r1, m2, B2, j2, d2, r2, rfl, hj1, hj2, hl1, hl2, hW1, hW2, hs1, hs2, hb1⟩
 have hB0 := hB0.below hb1 hB0.lt
 have hB1 := hB1.below hb1 hB1.lt
 have hB2 := hB2.below hb1 hB2.lt
 have hBW : Below w.heap.size w w1 := hBW.trans (hb1.mono hBW.size)
 have Z1 : ZIn w1 m1 B1 j1 d1 r1 x1 := ⟨hW1, hj1, hl1, hs1⟩
 have Z2 : ZIn w1 m2 B2 j2 d2 r2 x2 := ⟨hW2, hj2, hl2, hs2⟩
 have hz1 : w.heap.size + 1 + 1 + 1 ≤ w1.heap.size := hB2.lt
 have hB1 := (hB1.alloc (.cells #[.bool m1, .slice B1 j1 d1] 29)).alloc (.cells #[.bool m2, .slice B2 j2 d2] 29)
 have hB2 := (hB2.alloc (.cells #[.bool m1, .slice B1 j1 d1] 29)).alloc (.cells #[.bool m2, .slice B2 j2 d2] 29)
 obtain ⟨c0, c1, c2, c3, -, -, -, -⟩ := hB1.four
 clear hW1 hW2 hs1 hs2 hb1 hB0 HSZ P1
 go_wp2_with fail
 clear c0 c1 c2 c3
 have hC0 := (Blk.new w1 29 #[.bool m1, .slice B1 j1 d1]).alloc (.cells #[.bool m2, .slice B2 j2 d2] 29)
 have hC1 := Blk.new1 w1 (.cells #[.bool m1, .slice B1 j1 d1] 29) 29 #[.bool m2, .slice B2 j2 d2]
 have hBa : Below w1.heap.size w1 ((w1.alloc (.cells #[.bool m1, .slice B1 j1 d1] 29)).alloc (.cells #[.bool m2, .slice B2 j2 d2] 29)) := ((Below.refl _ _).alloc (Nat.le_refl _) _).alloc (by simp only [World.size_alloc]; omega) _
 have hsz : ((w1.alloc (.cells #[.bool m1, .slice B1 j1 d1] 29)).alloc (.cells #[.bool m2, .slice B2 j2 d2] 29)).heap.size = w1.heap.size + 1 + 1 := by simp
 generalize (w1.alloc (.cells #[.bool m1, .slice B1 j1 d1] 29)).alloc (.cells #[.bool m2, .slice B2 j2 d2] 29) = Wa at *
 have HSA := Lib.hid hsz
 clear hsz
 have hBa' : Below w.heap.size w Wa := hBW.trans (hBa.mono hBW.size)
 have Z1 := Z1.below hBa
 have Z2 := Z2.below hBa
 refine (P2.out Wa hBa').mono ?_
 rintro e w2 ⟨m3, B3, j3, d3, r3, m4, B4, j4, d4, r4, rfl, hj3, hj4, hl3, hl4, hW3, hW4, hs3, hs4, hb2⟩
 have hB2 := hB2.below hb2 hB2.lt
 have hC0 := hC0.below hb2 hC0.lt
 have hC1 := hC1.below hb2 hC1.lt
 have Z1 := Z1.below hb2
 have Z2 := Z2.below hb2
 have hz2 : Wa.heap.size ≤ w2.heap.size := hb2.size
 have hBb : Below w.heap.size w w2 := hBa'.trans (hb2.mono hBa'.size)
 have Z3 : ZIn w2 m3 B3 j3 d3 r3 x3 := ⟨hW3, hj3, hl3, hs3⟩
 have Z4 : ZIn w2 m4 B4 j4 d4 r4 x4 := ⟨hW4, hj4, hl4, hs4⟩
 have hza : w1.heap.size + 1 + 1 ≤ w2.heap.size := by have := HSA.out; omega
 clear hW3 hW4 hs3 hs4 hb2 hB1 P2 hBa hBa' hBW hz2
 go_wp2_with fail
 have hB2 := (hB2.alloc (.cells #[.bool m3, .slice B3 j3 d3] 29)).alloc (.cells #[.bool m4, .slice B4 j4 d4] 29)
 have hC0 := (hC0.alloc (.cells #[.bool m3, .slice B3 j3 d3] 29)).alloc (.cells #[.bool m4, .slice B4 j4 d4] 29)
 have hC1 := (hC1.alloc (.cells #[.bool m3, .slice B3 j3 d3] 29)).alloc (.cells #[.bool m4, .slice B4 j4 d4] 29)
 have hD0 := (Blk.new w2 29 #[.bool m3, .slice B3 j3 d3]).alloc (.cells #[.bool m4, .slice B4 j4 d4] 29)
 have hD1 := Blk.new1 w2 (.cells #[.bool m3, .slice B3 j3 d3] 29) 29 #[.bool m4, .slice B4 j4 d4]
 have hBc : Below w2.heap.size w2 ((w2.alloc (.cells #[.bool m3, .slice B3 j3 d3] 29)).alloc (.cells #[.bool m4, .slice B4 j4 d4] 29)) := ((Below.refl _ _).alloc (Nat.le_refl _) _).alloc (by simp only [World.size_alloc]; omega) _
 have hsz : ((w2.alloc (.cells #[.bool m3, .slice B3 j3 d3] 29)).alloc (.cells #[.bool m4, .slice B4 j4 d4] 29)).heap.size = w2.heap.size + 1 + 1 := by simp
 generalize (w2.alloc (.cells #[.bool m3, .slice B3 j3 d3] 29)).alloc (.cells #[.bool m4, .slice B4 j4 d4] 29) = Wb at *
 have HSB := Lib.hid hsz
 clear hsz
 have hBW : Below w.heap.size w Wb := hBb.trans (hBc.mono hBb.size)
 have hZ : ∀ w', Below Wb.heap.size Wb w' → ZIn w' m1 B1 j1 d1 r1 x1 ∧ ZIn w' m2 B2 j2 d2 r2 x2 ∧ ZIn w' m3 B3 j3 d3 r3 x3 ∧ ZIn w' m4 B4 j4 d4 r4 x4 := fun w' hb => ⟨(Z1.below hBc).below hb, (Z2.below hBc).below hb, (Z3.below hBc).below hb, (Z4.below hBc).below hb⟩
 have HZ := Lib.hid hZ
 have hzb : w2.heap.size + 1 + 1 = Wb.heap.size := HSB.out.symm
 have HZB := Lib.hid hzb
 clear hZ Z1 Z2 Z3 Z4 hBc hBb HSB hzb
 have s4 := RG4.start hB2
 have s5 := Kp.refl Wb
 have hS : ∀ w', RG4 (w.heap.size + 1 + 1) 31 Wb w' → (w'.cell? ⟨w1.heap.size, 0, none⟩ = some (.bool m1) ∧ w'.cell? ⟨w1.heap.size, 1, none⟩ = some (.slice B1 j1 d1) ∧ w'.cell? ⟨w1.heap.size + 1, 0, none⟩ = some (.bool m2) ∧ w'.cell? ⟨w1.heap.size + 1, 1, none⟩ = some (.slice B2 j2 d2) ∧ w'.cell? ⟨w2.heap.size, 0, none⟩ = some (.bool m3) ∧ w'.cell? ⟨w2.heap.size, 1, none⟩ = some (.slice B3 j3 d3) ∧ w'.cell? ⟨w2.heap.size + 1, 0, none⟩ = some (.bool m4) ∧ w'.cell? ⟨w2.heap.size + 1, 1, none⟩ = some (.slice B4 j4 d4)) ∧ RG4 (w.heap.size + 1 + 1) 31 Wb w' := fun w' hk => ⟨⟨(hk.blk hC0 (by omega)).cell 0, (hk.blk hC0 (by omega)).cell 1, (hk.blk hC1 (by omega)).cell 0, (hk.blk hC1 (by omega)).cell 1, (hk.blk hD0 (by omega)).cell 0, (hk.blk hD0 (by omega)).cell 1, (hk.blk hD1 (by omega)).cell 0, (hk.blk hD1 (by omega)).cell 1⟩, hk⟩
 have HS := Lib.hid hS
 clear hS
 clear hB2 hC0 hC1 hD0 hD1
 go_region_held3 (fun w' => (w'.cell? ⟨w1.heap.size, 0, none⟩ = some (.bool m1) ∧ w'.cell? ⟨w1.heap.size, 1, none⟩ = some (.slice B1 j1 d1) ∧ w'.cell? ⟨w1.heap.size + 1, 0, none⟩ = some (.bool m2) ∧ w'.cell? ⟨w1.heap.size + 1, 1, none⟩ = some (.slice B2 j2 d2) ∧ w'.cell? ⟨w2.heap.size, 0, none⟩ = some (.bool m3) ∧ w'.cell? ⟨w2.heap.size, 1, none⟩ = some (.slice B3 j3 d3) ∧ w'.cell? ⟨w2.heap.size + 1, 0, none⟩ = some (.bool m4) ∧ w'.cell? ⟨w2.heap.size + 1, 1, none⟩ = some (.slice B4 j4 d4)) ∧ RG4 (w.heap.size + 1 + 1) 31 Wb w')
  (first | (with_reducible refine HS.out _ ?_; with_reducible assumption) | (with_reducible refine HS.out _ (RG4.drew ?_); with_reducible assumption) | (with_reducible refine' HS.out _ (RG4.drew (And.right ?_)); rotate_left; with_reducible assumption) | (with_reducible refine' HS.out _ (RG4.set (And.right ?_) _ _ _ _); rotate_left; with_reducible assumption))
  (first
   | (go_at_call 90; have hk := And.right ‹_ ∧ RG4 (w.heap.size + 1 + 1) 31 Wb _›; refine (operations_any _).mono ?_; rintro e v1 ⟨rfl, hmap, hb1⟩; have hr1 := hk.call hb1; have hlk := look_sub v1 Wb.heap.size hmap; have hp1 : Kp Wb v1 := Kp.trans (Kp.drew s5) hb1; clear hmap hb1)
   | (go_at_call 135; have hk := And.right ‹_ ∧ RG4 (w.heap.size + 1 + 1) 31 Wb _›; refine (HO'.out m1 m2 m3 m4 B1 B2 B3 B4 j1 j2 j3 j4 d1 d2 d3 d4 r1 r2 r3 r4 _ (HZ.out _ hp1).1 (HZ.out _ hp1).2.1 (HZ.out _ hp1).2.2.1 (HZ.out _ hp1).2.2.2).mono ?_; rintro e v2 ⟨X1, u1, y1, X2, u2, y2, rfl, hk1, hk2, hX1, hX2, hb2⟩; have hr2 := hk.call hb2; have hp2 : Kp Wb v2 := Kp.trans hp1 hb2; clear hb2)
   | (go_at_call 61; have hk := And.right ‹_ ∧ RG4 (w.heap.size + 1 + 1) 31 Wb _›; refine (HR.out _ X1 X2 u1 y1 u2 y2 hX1 hk1 hX2 hk2).mono ?_; rintro e v3 ⟨A3, k3, c3, A4, k4, c4, rfl, hk3, hk4, hW3, hW4, hF3, hF4, hb3⟩; have hz3 := Below.size hp2; have hr3 := hk.call hb3; obtain ⟨_, _, _, _, i0, i1, i2, i3, i4, i5, i6, i7⟩ := hr3.four))
 have hgw : w.heap.size + 1 + 1 < Wb.heap.size := by have := HZB.out; omega
 have hr4 := hr3.rs (Nat.le_of_lt hgw)
 have HSZ : Hid (True) := trivial
 have hfin := retQ_close hBW (by omega) (by have := HSZ.out; omega) hr4 hk3 hk4 hW3 hW4 hF3 hF4
 obtain ⟨d0, d1, d2, d3, -, -, -, -⟩ := (hr4.done (.bool (decide ((q).num < 0))) (.slice A3 k3 c3) (.bool false) (.slice A4 k4 c4)).four
 have HF := Lib.hid hfin
 clear hfin hr4 s5 hp1 hp2
 go_wp2
 refine bodyPost_ret (v := .agg #[.bool (decide ((q).num < 0)), .slice A3 k3 c3, .bool false, .slice A4 k4 c4]) ?_ rfl HF.out
 simp [results, Tryz.results60, go_sem, d0, d1, d2, d3]


set_option maxRecDepth 100000 in
set_option maxHeartbeats 8000000 in
theorem calc_mul (M : Nat) (HO : WOK M) (an an' bn bn' : Bool) (aA aA' bA bA' : Option Addr) (ak ac ak' ac' bk bc bk' bc' : Nat) (na da nb db : Int) (w : World)
  (ha : QIn w an aA ak ac an' aA' ak' ac' na da) (hb : QIn w bn bA bk bc bn' bA' bk' bc' nb db) (hm3 : (qnum na da * qnum nb db).natAbs < M) (hm4 : (qden da * qden db).natAbs < M) :
  Calls Tryz.prog 60 #[.int .u8 42, .agg #[.bool an, .slice aA ak ac, .bool an', .slice aA' ak' ac'], .agg #[.bool bn, .slice bA bk bc, .bool bn', .slice bA' bk' bc']] w (RetQ w (mkRat (qnum na da * qnum nb db) (qden da * qden db).natAbs)) := by
 have hp : 0 < qden da * qden db := Int.mul_pos (qden_pos da) (qden_pos db)
 have hO := fun (m1 m2 m3 m4 : Bool) (B1 B2 B3 B4 : Option Addr) (j1 j2 j3 j4 d1 d2 d3 d4 : Nat) (r1 r2 r3 r4 : List Nat) (w : World)
  (h1 : ZIn w m1 B1 j1 d1 r1 (qnum na da)) (h2 : ZIn w m2 B2 j2 d2 r2 (qden da)) (h3 : ZIn w m3 B3 j3 d3 r3 (qnum nb db)) (h4 : ZIn w m4 B4 j4 d4 r4 (qden db)) => op_mul M HO m1 m2 m3 m4 B1 B2 B3 B4 j1 j2 j3 j4 d1 d2 d3 d4 r1 r2 r3 r4 _ _ _ _ w h1 h2 h3 h4
 have hR := fun (w : World) (B1 B2 : Option Addr) (j1 d1 j2 d2 : Nat) (h1 : Wat w B1 j1 (digs (qnum na da * qnum nb db).natAbs)) (hd1 : j1 ≤ d1) (h2 : Wat w B2 j2 (digs (qden da * qden db).natAbs)) (hd2 : j2 ≤ d2) => reduce_in HO h1 hd1 h2 hd2 hm3 hm4 hp
 have P1 := fun W hW => parts_in (w := W) (h := ha.below (w' := W) hW)
 have P2 := fun W hW => parts_in (w := W) (h := hb.below (w' := W) hW)
 generalize mkRat (qnum na da * qnum nb db) (qden da * qden db).natAbs = q at *
 generalize qnum na da * qnum nb db = zn at *
 generalize qden da * qden db = zd at *
 generalize qnum na da = x1 at *
 generalize qden da = x2 at *
 generalize qnum nb db = x3 at *
 generalize qden db = x4 at *
 have HO' := Lib.hid hO
 have HR := Lib.hid hR
 have P1 := Lib.hid P1
 have P2 := Lib.hid P2
 have hfld := field_op
 clear hO hR hm3 hm4 hp ha hb HO
 go_enter Tryz.func60, Tryz.ntmps60
 go_wp2_with fail
 obtain ⟨hB0, hB1, hB2, hBW, hsz⟩ := pre3 w 31 #[.bool an, .slice aA ak ac, .bool an', .slice aA' ak' ac'] 31 #[.bool bn, .slice bA bk bc, .bool bn', .slice bA' bk' bc'] 31 #[.bool false, .slice none 0 0, .bool false, .slice none 0 0]
 generalize ((w.alloc (.cells #[.bool an, .slice aA ak ac, .bool an', .slice aA' ak' ac'] 31)).alloc (.cells #[.bool bn, .slice bA bk bc, .bool bn', .slice bA' bk' bc'] 31)).alloc (.cells #[.bool false, .slice none 0 0, .bool false, .slice none 0 0] 31) = W at *
 have HSZ := Lib.hid hsz
 clear hsz
 refine (P1.out W hBW).mono ?_
 rintro e w1 ⟨m1, B1, j1, d1, r1, m2, B2, j2, d2, r2, rfl, hj1, hj2, hl1, hl2, hW1, hW2, hs1, hs2, hb1⟩
 have hB0 := hB0.below hb1 hB0.lt
 have hB1 := hB1.below hb1 hB1.lt
 have hB2 := hB2.below hb1 hB2.lt
 have hBW : Below w.heap.size w w1 := hBW.trans (hb1.mono hBW.size)
 have Z1 : ZIn w1 m1 B1 j1 d1 r1 x1 := ⟨hW1, hj1, hl1, hs1⟩
 have Z2 : ZIn w1 m2 B2 j2 d2 r2 x2 := ⟨hW2, hj2, hl2, hs2⟩
 have hz1 : w.heap.size + 1 + 1 + 1 ≤ w1.heap.size := hB2.lt
 have hB1 := (hB1.alloc (.cells #[.bool m1, .slice B1 j1 d1] 29)).alloc (.cells #[.bool m2, .slice B2 j2 d2] 29)
 have hB2 := (hB2.alloc (.cells #[.bool m1, .slice B1 j1 d1] 29)).alloc (.cells #[.bool m2, .slice B2 j2 d2] 29)
 obtain ⟨c0, c1, c2, c3, -, -, -, -⟩ := hB1.four
 clear hW1 hW2 hs1 hs2 hb1 hB0 HSZ P1
 go_wp2_with fail
 clear c0 c1 c2 c3
 have hC0 := (Blk.new w1 29 #[.bool m1, .slice B1 j1 d1]).alloc (.cells #[.bool m2, .slice B2 j2 d2] 29)
 have hC1 := Blk.new1 w1 (.cells #[.bool m1, .slice B1 j1 d1] 29) 29 #[.bool m2, .slice B2 j2 d2]
 have hBa : Below w1.heap.size w1 ((w1.alloc (.cells #[.bool m1, .slice B1 j1 d1] 29)).alloc (.cells #[.bool m2, .slice B2 j2 d2] 29)) := ((Below.refl _ _).alloc (Nat.le_refl _) _).alloc (by simp only [World.size_alloc]; omega) _
 have hsz : ((w1.alloc (.cells #[.bool m1, .slice B1 j1 d1] 29)).alloc (.cells #[.bool m2, .slice B2 j2 d2] 29)).heap.size = w1.heap.size + 1 + 1 := by simp
 generalize (w1.alloc (.cells #[.bool m1, .slice B1 j1 d1] 29)).alloc (.cells #[.bool m2, .slice B2 j2 d2] 29) = Wa at *
 have HSA := Lib.hid hsz
 clear hsz
 have hBa' : Below w.heap.size w Wa := hBW.trans (hBa.mono hBW.size)
 have Z1 := Z1.below hBa
 have Z2 := Z2.below hBa
 refine (P2.out Wa hBa').mono ?_
 rintro e w2 ⟨m3, B3, j3, d3, r3, m4, B4, j4, d4, r4, rfl, hj3, hj4, hl3, hl4, hW3, hW4, hs3, hs4, hb2⟩
 have hB2 := hB2.below hb2 hB2.lt
 have hC0 := hC0.below hb2 hC0.lt
 have hC1 := hC1.below hb2 hC1.lt
 have Z1 := Z1.below hb2
 have Z2 := Z2.below hb2
 have hz2 : Wa.heap.size ≤ w2.heap.size := hb2.size
 have hBb : Below w.heap.size w w2 := hBa'.trans (hb2.mono hBa'.size)
 have Z3 : ZIn w2 m3 B3 j3 d3 r3 x3 := ⟨hW3, hj3, hl3, hs3⟩
 have Z4 : ZIn w2 m4 B4 j4 d4 r4 x4 := ⟨hW4, hj4, hl4, hs4⟩
 have hza : w1.heap.size + 1 + 1 ≤ w2.heap.size := by have := HSA.out; omega
 clear hW3 hW4 hs3 hs4 hb2 hB1 P2 hBa hBa' hBW hz2
 go_wp2_with fail
 have hB2 := (hB2.alloc (.cells #[.bool m3, .slice B3 j3 d3] 29)).alloc (.cells #[.bool m4, .slice B4 j4 d4] 29)
 have hC0 := (hC0.alloc (.cells #[.bool m3, .slice B3 j3 d3] 29)).alloc (.cells #[.bool m4, .slice B4 j4 d4] 29)
 have hC1 := (hC1.alloc (.cells #[.bool m3, .slice B3 j3 d3] 29)).alloc (.cells #[.bool m4, .slice B4 j4 d4] 29)
 have hD0 := (Blk.new w2 29 #[.bool m3, .slice B3 j3 d3]).alloc (.cells #[.bool m4, .slice B4 j4 d4] 29)
 have hD1 := Blk.new1 w2 (.cells #[.bool m3, .slice B3 j3 d3] 29) 29 #[.bool m4, .slice B4 j4 d4]
 have hBc : Below w2.heap.size w2 ((w2.alloc (.cells #[.bool m3, .slice B3 j3 d3] 29)).alloc (.cells #[.bool m4, .slice B4 j4 d4] 29)) := ((Below.refl _ _).alloc (Nat.le_refl _) _).alloc (by simp only [World.size_alloc]; omega) _
 have hsz : ((w2.alloc (.cells #[.bool m3, .slice B3 j3 d3] 29)).alloc (.cells #[.bool m4, .slice B4 j4 d4] 29)).heap.size = w2.heap.size + 1 + 1 := by simp
 generalize (w2.alloc (.cells #[.bool m3, .slice B3 j3 d3] 29)).alloc (.cells #[.bool m4, .slice B4 j4 d4] 29) = Wb at *
 have HSB := Lib.hid hsz
 clear hsz
 have hBW : Below w.heap.size w Wb := hBb.trans (hBc.mono hBb.size)
 have hZ : ∀ w', Below Wb.heap.size Wb w' → ZIn w' m1 B1 j1 d1 r1 x1 ∧ ZIn w' m2 B2 j2 d2 r2 x2 ∧ ZIn w' m3 B3 j3 d3 r3 x3 ∧ ZIn w' m4 B4 j4 d4 r4 x4 := fun w' hb => ⟨(Z1.below hBc).below hb, (Z2.below hBc).below hb, (Z3.below hBc).below hb, (Z4.below hBc).below hb⟩
 have HZ := Lib.hid hZ
 have hzb : w2.heap.size + 1 + 1 = Wb.heap.size := HSB.out.symm
 have HZB := Lib.hid hzb
 clear hZ Z1 Z2 Z3 Z4 hBc hBb HSB hzb
 have s4 := RG4.start hB2
 have s5 := Kp.refl Wb
 have hS : ∀ w', RG4 (w.heap.size + 1 + 1) 31 Wb w' → (w'.cell? ⟨w1.heap.size, 0, none⟩ = some (.bool m1) ∧ w'.cell? ⟨w1.heap.size, 1, none⟩ = some (.slice B1 j1 d1) ∧ w'.cell? ⟨w1.heap.size + 1, 0, none⟩ = some (.bool m2) ∧ w'.cell? ⟨w1.heap.size + 1, 1, none⟩ = some (.slice B2 j2 d2) ∧ w'.cell? ⟨w2.heap.size, 0, none⟩ = some (.bool m3) ∧ w'.cell? ⟨w2.heap.size, 1, none⟩ = some (.slice B3 j3 d3) ∧ w'.cell? ⟨w2.heap.size + 1, 0, none⟩ = some (.bool m4) ∧ w'.cell? ⟨w2.heap.size + 1, 1, none⟩ = some (.slice B4 j4 d4)) ∧ RG4 (w.heap.size + 1 + 1) 31 Wb w' := fun w' hk => ⟨⟨(hk.blk hC0 (by omega)).cell 0, (hk.blk hC0 (by omega)).cell 1, (hk.blk hC1 (by omega)).cell 0, (hk.blk hC1 (by omega)).cell 1, (hk.blk hD0 (by omega)).cell 0, (hk.blk hD0 (by omega)).cell 1, (hk.blk hD1 (by omega)).cell 0, (hk.blk hD1 (by omega)).cell 1⟩, hk⟩
 have HS := Lib.hid hS
 clear hS
 clear hB2 hC0 hC1 hD0 hD1
 go_region_held3 (fun w' => (w'.cell? ⟨w1.heap.size, 0, none⟩ = some (.bool m1) ∧ w'.cell? ⟨w1.heap.size, 1, none⟩ = some (.slice B1 j1 d1) ∧ w'.cell? ⟨w1.heap.size + 1, 0, none⟩ = some (.bool m2) ∧ w'.cell? ⟨w1.heap.size + 1, 1, none⟩ = some (.slice B2 j2 d2) ∧ w'.cell? ⟨w2.heap.size, 0, none⟩ = some (.bool m3) ∧ w'.cell? ⟨w2.heap.size, 1, none⟩ = some (.slice B3 j3 d3) ∧ w'.cell? ⟨w2.heap.size + 1, 0, none⟩ = some (.bool m4) ∧ w'.cell? ⟨w2.heap.size + 1, 1, none⟩ = some (.slice B4 j4 d4)) ∧ RG4 (w.heap.size + 1 + 1) 31 Wb w')
  (first | (with_reducible refine HS.out _ ?_; with_reducible assumption) | (with_reducible refine HS.out _ (RG4.drew ?_); with_reducible assumption) | (with_reducible refine' HS.out _ (RG4.drew (And.right ?_)); rotate_left; with_reducible assumption) | (with_reducible refine' HS.out _ (RG4.set (And.right ?_) _ _ _ _); rotate_left; with_reducible assumption))
  (first
   | (go_at_call 90; have hk := And.right ‹_ ∧ RG4 (w.heap.size + 1 + 1) 31 Wb _›; refine (operations_any _).mono ?_; rintro e v1 ⟨rfl, hmap, hb1⟩; have hr1 := hk.call hb1; have hlk := look_mul v1 Wb.heap.size hmap; have hp1 : Kp Wb v1 := Kp.trans (Kp.drew s5) hb1; clear hmap hb1)
   | (go_at_call 137; have hk := And.right ‹_ ∧ RG4 (w.heap.size + 1 + 1) 31 Wb _›; refine (HO'.out m1 m2 m3 m4 B1 B2 B3 B4 j1 j2 j3 j4 d1 d2 d3 d4 r1 r2 r3 r4 _ (HZ.out _ hp1).1 (HZ.out _ hp1).2.1 (HZ.out _ hp1).2.2.1 (HZ.out _ hp1).2.2.2).mono ?_; rintro e v2 ⟨X1, u1, y1, X2, u2, y2, rfl, hk1, hk2, hX1, hX2, hb2⟩; have hr2 := hk.call hb2; have hp2 : Kp Wb v2 := Kp.trans hp1 hb2; clear hb2)
   | (go_at_call 61; have hk := And.right ‹_ ∧ RG4 (w.heap.size + 1 + 1) 31 Wb _›; refine (HR.out _ X1 X2 u1 y1 u2 y2 hX1 hk1 hX2 hk2).mono ?_; rintro e v3 ⟨A3, k3, c3, A4, k4, c4, rfl, hk3, hk4, hW3, hW4, hF3, hF4, hb3⟩; have hz3 := Below.size hp2; have hr3 := hk.call hb3; obtain ⟨_, _, _, _, i0, i1, i2, i3, i4, i5, i6, i7⟩ := hr3.four))
 have hgw : w.heap.size + 1 + 1 < Wb.heap.size := by have := HZB.out; omega
 have hr4 := hr3.rs (Nat.le_of_lt hgw)
 have HSZ : Hid (True) := trivial
 have hfin := retQ_close hBW (by omega) (by have := HSZ.out; omega) hr4 hk3 hk4 hW3 hW4 hF3 hF4
 obtain ⟨d0, d1, d2, d3, -, -, -, -⟩ := (hr4.done (.bool (decide ((q).num < 0))) (.slice A3 k3 c3) (.bool false) (.slice A4 k4 c4)).four
 have HF := Lib.hid hfin
 clear hfin hr4 s5 hp1 hp2
 go_wp2
 refine bodyPost_ret (v := .agg #[.bool (decide ((q).num < 0)), .slice A3 k3 c3, .bool false, .slice A4 k4 c4]) ?_ rfl HF.out
 simp [results, Tryz.results60, go_sem, d0, d1, d2, d3]

end Go.Proofs.YtodkhjihkkmplaaGreat
