/-
Contracts of calculate, Add, Sub and Mul of package frac. No statement of the seat is proved here; no conditions beyond those of each theorem.
-/
import Derived.Test.YtjajigkacccdgaaGreatTdAI
namespace Go.Proofs.YtjajigkacccdgaaGreat
set_option linter.unusedVariables false
set_option linter.unusedSimpArgs false
open Go.RowKit
open Wd

/-- All blocks but g are as in W, and g is still a box of four cells. -/
def RG4 (g : Nat) (t : TypeId) (W w' : World) : Prop := W.grownBy w' (some g) ∧ ∃ x y z u, Blk w' g t #[x, y, z, u]
section
variable {g : Nat} {t : TypeId} {W w w' : World}
theorem RG4.start {x y z u : Value} (h : Blk W g t #[x, y, z, u]) : RG4 g t W W := ⟨⟨rfl, rfl, rfl, Nat.le_refl _, fun _ _ _ => rfl⟩, x, y, z, u, h⟩
theorem RG4.drew (h : RG4 g t W w) : RG4 g t W w.drew := ⟨⟨h.1.os, h.1.tape, h.1.output, h.1.size, h.1.block⟩, h.2⟩
theorem RG4.call (h : RG4 g t W w) (hb : Below w.heap.size w w') : RG4 g t W w' := by
 obtain ⟨h1, x, y, z, u, h2⟩ := h
 exact ⟨⟨hb.os.trans h1.os, hb.tape.trans h1.tape, hb.output.trans h1.output, Nat.le_trans h1.size hb.size, fun k hk hne => (hb.block k (Nat.lt_of_lt_of_le hk h1.size)).trans (h1.block k hk hne)⟩, x, y, z, u, h2.below hb h2.lt⟩
theorem RG4.set (h : RG4 g t W w) (a b c d : Value) : RG4 g t W ((((w.setCell ⟨g, 0, none⟩ a).setCell ⟨g, 1, none⟩ b).setCell ⟨g, 2, none⟩ c).setCell ⟨g, 3, none⟩ d) := by
 obtain ⟨h1, x, y, z, u, h2⟩ := h
 refine ⟨⟨h1.os, h1.tape, h1.output, by simpa [World.setCell] using h1.size, fun k hk hne => ?_⟩, a, b, c, d, h2.set4 a b c d⟩
 have hkg : k ≠ g := fun e => hne (by rw [e])
 rw [Below.heap_setCell _ _ _ _ (by simpa using hkg), Below.heap_setCell _ _ _ _ (by simpa using hkg), Below.heap_setCell _ _ _ _ (by simpa using hkg), Below.heap_setCell _ _ _ _ (by simpa using hkg)]
 exact h1.block k hk hne
theorem RG4.blk {g' : Nat} {t' : TypeId} {cs : Array Value} (h : RG4 g t W w) (hg : Blk W g' t' cs) (hne : g' ≠ g) : Blk w g' t' cs := (h.1.block g' hg.lt (fun e => hne (by injection e))).trans hg
theorem RG4.four (h : RG4 g t W w) : ∃ x y z u, w.cell? ⟨g, 0, none⟩ = some x ∧ w.cell? ⟨g, 1, none⟩ = some y ∧ w.cell? ⟨g, 2, none⟩ = some z ∧ w.cell? ⟨g, 3, none⟩ = some u ∧
  w.frozen? ⟨g, 0, none⟩ = false ∧ w.frozen? ⟨g, 1, none⟩ = false ∧ w.frozen? ⟨g, 2, none⟩ = false ∧ w.frozen? ⟨g, 3, none⟩ = false := by
 obtain ⟨_, x, y, z, u, h2⟩ := h
 exact ⟨x, y, z, u, h2.four⟩
theorem RG4.below {B : Nat} (h : RG4 g t W w) (hB : B ≤ W.heap.size) (hg : B ≤ g) : Below B W w :=
 ⟨h.1.os, h.1.tape, h.1.output, h.1.size, fun k hk => h.1.block k (by omega) (fun e => by injection e with e; omega)⟩
theorem RG4.rs (h : RG4 g t W w) (hg : g ≤ W.heap.size) : RS4 g t W w := ⟨h.below hg (Nat.le_refl _), h.2⟩
end

/-- A rational operand in memory: four cells that read as numerator and denominator. -/
def QIn (w : World) (neg : Bool) (A : Option Addr) (n c : Nat) (neg' : Bool) (A' : Option Addr) (n' c' : Nat) (na da : Int) : Prop :=
 ∃ l l', Wat w A n l ∧ Wat w A' n' l' ∧ n ≤ c ∧ n' ≤ c' ∧ n ≤ 10000000000 ∧ n' ≤ 10000000000 ∧ sg neg (val l) = na ∧ sg neg' (val l') = da
theorem QIn.below {w w' : World} {neg neg' : Bool} {A A' : Option Addr} {n c n' c' : Nat} {na da : Int} (h : QIn w neg A n c neg' A' n' c' na da) (hb : Below w.heap.size w w') : QIn w' neg A n c neg' A' n' c' na da := by
 obtain ⟨l, l', h1, h2, h3⟩ := h
 exact ⟨l, l', h1.below hb, h2.below hb, h3⟩
theorem parts_in {w : World} {neg neg' : Bool} {A A' : Option Addr} {n c n' c' : Nat} {na da : Int} (h : QIn w neg A n c neg' A' n' c' na da) :
  Calls Tryz.prog 93 #[.agg #[.bool neg, .slice A n c, .bool neg', .slice A' n' c']] w (RetParts w (qnum na da) (qden da)) := by
 obtain ⟨l, l', h1, h2, h3, h4, h5, h6, rfl, rfl⟩ := h
 exact parts_any neg neg' A A' n n' c c' l l' w h1 h2 h3 h4 h5 h6
theorem short_in {w : World} {neg neg' : Bool} {A A' : Option Addr} {n c n' c' : Nat} {na da : Int} (h : QIn w neg A n c neg' A' n' c' na da) :
  Calls Tryz.prog 90 #[.agg #[.bool neg, .slice A n c, .bool neg', .slice A' n' c']] w (ShortPost w na da) := by
 obtain ⟨l, l', h1, h2, h3, h4, h5, h6, rfl, rfl⟩ := h
 exact short_any neg neg' A A' n n' c c' l l' w h1 h2 h3 h4 h5 h6
theorem reduce_in {M : Nat} (HO : WOK M) {w : World} {z1 z2 : Int} {B1 B2 : Option Addr} {j1 d1 j2 d2 : Nat} (h1 : Wat w B1 j1 (digs z1.natAbs)) (hd1 : j1 ≤ d1) (h2 : Wat w B2 j2 (digs z2.natAbs)) (hd2 : j2 ≤ d2) (hz1 : z1.natAbs < M) (hz2 : z2.natAbs < M) (hpos : 0 < z2) :
  Calls Tryz.prog 111 #[.agg #[.bool (decide (z1 < 0)), .slice B1 j1 d1], .agg #[.bool (decide (z2 < 0)), .slice B2 j2 d2]] w (RetQ w (mkRat z1 z2.natAbs)) := by
 have := reduce_any M HO (decide (z1 < 0)) (decide (z2 < 0)) B1 B2 j1 j2 d1 d2 _ _ w h1 h2 hd1 hd2 (by rw [← h1.1]; exact HO.len _ hz1) (by rw [← h2.1]; exact HO.len _ hz2) (by rw [val_digs]; exact hz1) (by rw [val_digs]; exact hz2) (by rw [val_digs, sg_self]; exact hpos)
 rwa [val_digs, val_digs, sg_self] at this


set_option maxRecDepth 100000 in
set_option maxHeartbeats 8000000 in
theorem calc_add (M : Nat) (HO : WOK M) (an an' bn bn' : Bool) (aA aA' bA bA' : Option Addr) (ak ac ak' ac' bk bc bk' bc' : Nat) (na da nb db : Int) (w : World)
  (ha : QIn w an aA ak ac an' aA' ak' ac' na da) (hb : QIn w bn bA bk bc bn' bA' bk' bc' nb db) (hm1 : (qnum na da * qden db).natAbs < M) (hm2 : (qnum nb db * qden da).natAbs < M) (hm3 : (qnum na da * qden db + qnum nb db * qden da).natAbs < M) (hm4 : (qden da * qden db).natAbs < M) :
  Calls Tryz.prog 92 #[.int .u8 43, .agg #[.bool an, .slice aA ak ac, .bool an', .slice aA' ak' ac'], .agg #[.bool bn, .slice bA bk bc, .bool bn', .slice bA' bk' bc']] w (RetQ w (mkRat (qnum na da * qden db + qnum nb db * qden da) (qden da * qden db).natAbs)) := by
 have hp : 0 < qden da * qden db := Int.mul_pos (qden_pos da) (qden_pos db)
 have hO := fun (m1 m2 m3 m4 : Bool) (B1 B2 B3 B4 : Option Addr) (j1 j2 j3 j4 d1 d2 d3 d4 : Nat) (r1 r2 r3 r4 : List Nat) (w : World)
  (h1 : ZIn w m1 B1 j1 d1 r1 (qnum na da)) (h2 : ZIn w m2 B2 j2 d2 r2 (qden da)) (h3 : ZIn w m3 B3 j3 d3 r3 (qnum nb db)) (h4 : ZIn w m4 B4 j4 d4 r4 (qden db)) => op_add M HO m1 m2 m3 m4 B1 B2 B3 B4 j1 j2 j3 j4 d1 d2 d3 d4 r1 r2 r3 r4 _ _ _ _ w h1 h2 h3 h4 hm1 hm2
 have hR := fun (w : World) (B1 B2 : Option Addr) (j1 d1 j2 d2 : Nat) (h1 : Wat w B1 j1 (digs (qnum na da * qden db + qnum nb db * qden da).natAbs)) (hd1 : j1 ≤ d1) (h2 : Wat w B2 j2 (digs (qden da * qden db).natAbs)) (hd2 : j2 ≤ d2) => reduce_in HO h1 hd1 h2 hd2 hm3 hm4 hp
 have P1 := fun W hW => parts_in (w := W) (h := ha.below (w' := W) hW)
 have P2 := fun W hW => parts_in (w := W) (h := hb.below (w' := W) hW)
 generalize mkRat (qnum na da * qden db + qnum nb db * qden da) (qden da * qden db).natAbs = q at *
 generalize qnum na da * qden db + qnum nb db * qden da = zn at *
 generalize qden da * qden db = zd at *
 generalize qnum na da = x1 at *
 generalize qden da = x2 at *
 generalize qnum nb db = x3 at *
 generalize qden db = x4 at *
 have HO' := Lib.hid hO
 have HR := Lib.hid hR
 have P1 := Lib.hid P1
 have P2 := Lib.hid P2
 have hfld := field_op
 clear hO hR hm3 hm4 hp ha hb HO hm1 hm2
 go_enter Tryz.func92, Tryz.ntmps92
 go_wp2_with fail
 obtain ⟨hB0, hB1, hB2, hBW, hsz⟩ := pre3 w 42 #[.bool an, .slice aA ak ac, .bool an', .slice aA' ak' ac'] 42 #[.bool bn, .slice bA bk bc, .bool bn', .slice bA' bk' bc'] 42 #[.bool false, .slice none 0 0, .bool false, .slice none 0 0]
 generalize ((w.alloc (.cells #[.bool an, .slice aA ak ac, .bool an', .slice aA' ak' ac'] 42)).alloc (.cells #[.bool bn, .slice bA bk bc, .bool bn', .slice bA' bk' bc'] 42)).alloc (.cells #[.bool false, .slice none 0 0, .bool false, .slice none 0 0] 42) = W at *
 have HSZ := Lib.hid hsz
 clear hsz
 refine (P1.out W hBW).mono ?_
 rintro e w1 ⟨m1, B1, j1, d1, r1, m2, B2, j2, d2, r2, rfl, hj1, hj2, hl1, hl2, hW1, hW2, hs1, hs2, hb1⟩
 have hB0 := hB0.below hb1 hB0.lt
 have hB1 := hB1.below hb1 hB1.lt
 have hB2 := hB2.below hb1 hB2.lt
 have hBW : Below w.heap.size w w1 := hBW.trans (hb1.mono hBW.size)
 have Z1 : ZIn w1 m1 B1 j1 d1 r1 x1 := ⟨hW1, hj1, hl1, hs1⟩
 have Z2 : ZIn w1 m2 B2 j2 d2 r2 x2 := ⟨hW2, hj2, hl2, hs2⟩
 have hz1 : w.heap.size + 1 + 1 + 1 ≤ w1.heap.size := hB2.lt
 have hB1 := (hB1.alloc (.cells #[.bool m1, .slice B1 j1 d1] 40)).alloc (.cells #[.bool m2, .slice B2 j2 d2] 40)
 have hB2 := (hB2.alloc (.cells #[.bool m1, .slice B1 j1 d1] 40)).alloc (.cells #[.bool m2, .slice B2 j2 d2] 40)
 obtain ⟨c0, c1, c2, c3, -, -, -, -⟩ := hB1.four
 clear hW1 hW2 hs1 hs2 hb1 hB0 HSZ P1
 go_wp2_with fail
 clear c0 c1 c2 c3
 have hC0 := (Blk.new w1 40 #[.bool m1, .slice B1 j1 d1]).alloc (.cells #[.bool m2, .slice B2 j2 d2] 40)
 have hC1 := Blk.new1 w1 (.cells #[.bool m1, .slice B1 j1 d1] 40) 40 #[.bool m2, .slice B2 j2 d2]
 have hBa : Below w1.heap.size w1 ((w1.alloc (.cells #[.bool m1, .slice B1 j1 d1] 40)).alloc (.cells #[.bool m2, .slice B2 j2 d2] 40)) := ((Below.refl _ _).alloc (Nat.le_refl _) _).alloc (by simp only [World.size_alloc]; omega) _
 have hsz : ((w1.alloc (.cells #[.bool m1, .slice B1 j1 d1] 40)).alloc (.cells #[.bool m2, .slice B2 j2 d2] 40)).heap.size = w1.heap.size + 1 + 1 := by simp
 generalize (w1.alloc (.cells #[.bool m1, .slice B1 j1 d1] 40)).alloc (.cells #[.bool m2, .slice B2 j2 d2] 40) = Wa at *
 have HSA := Lib.hid hsz
 clear hsz
 have hBa' : Below w.heap.size w Wa := hBW.trans (hBa.mono hBW.size)
 have Z1 := Z1.below hBa
 have Z2 := Z2.below hBa
 refine (P2.out Wa hBa').mono ?_
 rintro e w2 ⟨m3, B3, j3, d3, r3, m4, B4, j4, d4, r4, rfl, hj3, hj4, hl3, hl4, hW3, hW4, hs3, hs4, hb2⟩
 have hB2 := hB2.below hb2 hB2.lt
 have hC0 := hC0.below hb2 hC0.lt
 have hC1 := hC1.below hb2 hC1.lt
 have Z1 := Z1.below hb2
 have Z2 := Z2.below hb2
 have hz2 : Wa.heap.size ≤ w2.heap.size := hb2.size
 have hBb : Below w.heap.size w w2 := hBa'.trans (hb2.mono hBa'.size)
 have Z3 : ZIn w2 m3 B3 j3 d3 r3 x3 := ⟨hW3, hj3, hl3, hs3⟩
 have Z4 : ZIn w2 m4 B4 j4 d4 r4 x4 := ⟨hW4, hj4, hl4, hs4⟩
 have hza : w1.heap.size + 1 + 1 ≤ w2.heap.size := by have := HSA.out; omega
 clear hW3 hW4 hs3 hs4 hb2 hB1 P2 hBa hBa' hBW hz2
 go_wp2_with fail
 have hB2 := (hB2.alloc (.cells #[.bool m3, .slice B3 j3 d3] 40)).alloc (.cells #[.bool m4, .slice B4 j4 d4] 40)
 have hC0 := (hC0.alloc (.cells #[.bool m3, .slice B3 j3 d3] 40)).alloc (.cells #[.bool m4, .slice B4 j4 d4] 40)
 have hC1 := (hC1.alloc (.cells #[.bool m3, .slice B3 j3 d3] 40)).alloc (.cells #[.bool m4, .slice B4 j4 d4] 40)
 have hD0 := (Blk.new w2 40 #[.bool m3, .slice B3 j3 d3]).alloc (.cells #[.bool m4, .slice B4 j4 d4] 40)
 have hD1 := Blk.new1 w2 (.cells #[.bool m3, .slice B3 j3 d3] 40) 40 #[.bool m4, .slice B4 j4 d4]
 have hBc : Below w2.heap.size w2 ((w2.alloc (.cells #[.bool m3, .slice B3 j3 d3] 40)).alloc (.cells #[.bool m4, .slice B4 j4 d4] 40)) := ((Below.refl _ _).alloc (Nat.le_refl _) _).alloc (by simp only [World.size_alloc]; omega) _
 have hsz : ((w2.alloc (.cells #[.bool m3, .slice B3 j3 d3] 40)).alloc (.cells #[.bool m4, .slice B4 j4 d4] 40)).heap.size = w2.heap.size + 1 + 1 := by simp
 generalize (w2.alloc (.cells #[.bool m3, .slice B3 j3 d3] 40)).alloc (.cells #[.bool m4, .slice B4 j4 d4] 40) = Wb at *
 have HSB := Lib.hid hsz
 clear hsz
 have hBW : Below w.heap.size w Wb := hBb.trans (hBc.mono hBb.size)
 have hZ : ∀ w', Below Wb.heap.size Wb w' → ZIn w' m1 B1 j1 d1 r1 x1 ∧ ZIn w' m2 B2 j2 d2 r2 x2 ∧ ZIn w' m3 B3 j3 d3 r3 x3 ∧ ZIn w' m4 B4 j4 d4 r4 x4 := fun w' hb => ⟨(Z1.below hBc).below hb, (Z2.below hBc).below hb, (Z3.below hBc).below hb, (Z4.below hBc).below hb⟩
 have HZ := Lib.hid hZ
 have hzb : w2.heap.size + 1 + 1 = Wb.heap.size := HSB.out.symm
 have HZB := Lib.hid hzb
 clear hZ Z1 Z2 Z3 Z4 hBc hBb HSB hzb
 have s4 := RG4.start hB2
 have s5 := Kp.refl Wb
 have hS : ∀ w', RG4 (w.heap.size + 1 + 1) 42 Wb w' → (w'.cell? ⟨w1.heap.size, 0, none⟩ = some (.bool m1) ∧ w'.cell? ⟨w1.heap.size, 1, none⟩ = some (.slice B1 j1 d1) ∧ w'.cell? ⟨w1.heap.size + 1, 0, none⟩ = some (.bool m2) ∧ w'.cell? ⟨w1.heap.size + 1, 1, none⟩ = some (.slice B2 j2 d2) ∧ w'.cell? ⟨w2.heap.size, 0, none⟩ = some (.bool m3) ∧ w'.cell? ⟨w2.heap.size, 1, none⟩ = some (.slice B3 j3 d3) ∧ w'.cell? ⟨w2.heap.size + 1, 0, none⟩ = some (.bool m4) ∧ w'.cell? ⟨w2.heap.size + 1, 1, none⟩ = some (.slice B4 j4 d4)) ∧ RG4 (w.heap.size + 1 + 1) 42 Wb w' := fun w' hk => ⟨⟨(hk.blk hC0 (by omega)).cell 0, (hk.blk hC0 (by omega)).cell 1, (hk.blk hC1 (by omega)).cell 0, (hk.blk hC1 (by omega)).cell 1, (hk.blk hD0 (by omega)).cell 0, (hk.blk hD0 (by omega)).cell 1, (hk.blk hD1 (by omega)).cell 0, (hk.blk hD1 (by omega)).cell 1⟩, hk⟩
 have HS := Lib.hid hS
 clear hS
 clear hB2 hC0 hC1 hD0 hD1
 go_region_held3 (fun w' => (w'.cell? ⟨w1.heap.size, 0, none⟩ = some (.bool m1) ∧ w'.cell? ⟨w1.heap.size, 1, none⟩ = some (.slice B1 j1 d1) ∧ w'.cell? ⟨w1.heap.size + 1, 0, none⟩ = some (.bool m2) ∧ w'.cell? ⟨w1.heap.size + 1, 1, none⟩ = some (.slice B2 j2 d2) ∧ w'.cell? ⟨w2.heap.size, 0, none⟩ = some (.bool m3) ∧ w'.cell? ⟨w2.heap.size, 1, none⟩ = some (.slice B3 j3 d3) ∧ w'.cell? ⟨w2.heap.size + 1, 0, none⟩ = some (.bool m4) ∧ w'.cell? ⟨w2.heap.size + 1, 1, none⟩ = some (.slice B4 j4 d4)) ∧ RG4 (w.heap.size + 1 + 1) 42 Wb w')
  (first | (with_reducible refine HS.out _ ?_; with_reducible assumption) | (with_reducible refine HS.out _ (RG4.drew ?_); with_reducible assumption) | (with_reducible refine' HS.out _ (RG4.drew (And.right ?_)); rotate_left; with_reducible assumption) | (with_reducible refine' HS.out _ (RG4.set (And.right ?_) _ _ _ _); rotate_left; with_reducible assumption))
  (first
   | (go_at_call 139; have hk := And.right ‹_ ∧ RG4 (w.heap.size + 1 + 1) 42 Wb _›; refine (operations_any _).mono ?_; rintro e v1 ⟨rfl, hmap, hb1⟩; have hr1 := hk.call hb1; have hlk := look_add v1 Wb.heap.size hmap; have hp1 : Kp Wb v1 := Kp.trans (Kp.drew s5) hb1; clear hmap hb1)
   | (go_at_call 190; have hk := And.right ‹_ ∧ RG4 (w.heap.size + 1 + 1) 42 Wb _›; refine (HO'.out m1 m2 m3 m4 B1 B2 B3 B4 j1 j2 j3 j4 d1 d2 d3 d4 r1 r2 r3 r4 _ (HZ.out _ hp1).1 (HZ.out _ hp1).2.1 (HZ.out _ hp1).2.2.1 (HZ.out _ hp1).2.2.2).mono ?_; rintro e v2 ⟨X1, u1, y1, X2, u2, y2, rfl, hk1, hk2, hX1, hX2, hb2⟩; have hr2 := hk.call hb2; have hp2 : Kp Wb v2 := Kp.trans hp1 hb2; clear hb2)
   | (go_at_call 111; have hk := And.right ‹_ ∧ RG4 (w.heap.size + 1 + 1) 42 Wb _›; refine (HR.out _ X1 X2 u1 y1 u2 y2 hX1 hk1 hX2 hk2).mono ?_; rintro e v3 ⟨A3, k3, c3, A4, k4, c4, rfl, hk3, hk4, hW3, hW4, hF3, hF4, hb3⟩; have hz3 := Below.size hp2; have hr3 := hk.call hb3; obtain ⟨_, _, _, _, i0, i1, i2, i3, i4, i5, i6, i7⟩ := hr3.four))
 have hgw : w.heap.size + 1 + 1 < Wb.heap.size := by have := HZB.out; omega
 have hr4 := hr3.rs (Nat.le_of_lt hgw)
 have HSZ : Hid (True) := trivial
 have hfin := retQ_close hBW (by omega) (by have := HSZ.out; omega) hr4 hk3 hk4 hW3 hW4 hF3 hF4
 obtain ⟨d0, d1, d2, d3, -, -, -, -⟩ := (hr4.done (.bool (decide ((q).num < 0))) (.slice A3 k3 c3) (.bool false) (.slice A4 k4 c4)).four
 have HF := Lib.hid hfin
 clear hfin hr4 s5 hp1 hp2
 go_wp2
 refine bodyPost_ret (v := .agg #[.bool (decide ((q).num < 0)), .slice A3 k3 c3, .bool false, .slice A4 k4 c4]) ?_ rfl HF.out
 simp [results, Tryz.results92, go_sem, d0, d1, d2, d3]


set_option maxRecDepth 100000 in
set_option maxHeartbeats 8000000 in
theorem calc_sub (M : Nat) (HO : WOK M) (an an' bn bn' : Bool) (aA aA' bA bA' : Option Addr) (ak ac ak' ac' bk bc bk' bc' : Nat) (na da nb db : Int) (w : World)
  (ha : QIn w an aA ak ac an' aA' ak' ac' na da) (hb : QIn w bn bA bk bc bn' bA' bk' bc' nb db) (hm1 : (qnum na da * qden db).natAbs < M) (hm2 : (qnum nb db * qden da).natAbs < M) (hm3 : (qnum na da * qden db - qnum nb db * qden da).natAbs < M) (hm4 : (qden da * qden db).natAbs < M) :
  Calls Tryz.prog 92 #[.int .u8 45, .agg #[.bool an, .slice aA ak ac, .bool an', .slice aA' ak' ac'], .agg #[.bool bn, .slice bA bk bc, .bool bn', .slice bA' bk' bc']] w (RetQ w (mkRat (qnum na da * qden db - qnum nb db * qden da) (qden da * qden db).natAbs)) := by
 have hp : 0 < qden da * qden db := Int.mul_pos (qden_pos da) (qden_pos db)
 have hO := fun (m1 m2 m3 m4 : Bool) (B1 B2 B3 B4 : Option Addr) (j1 j2 j3 j4 d1 d2 d3 d4 : Nat) (r1 r2 r3 r4 : List Nat) (w : World)
  (h1 : ZIn w m1 B1 j1 d1 r1 (qnum na da)) (h2 : ZIn w m2 B2 j2 d2 r2 (qden da)) (h3 : ZIn w m3 B3 j3 d3 r3 (qnum nb db)) (h4 : ZIn w m4 B4 j4 d4 r4 (qden db)) => op_sub M HO m1 m2 m3 m4 B1 B2 B3 B4 j1 j2 j3 j4 d1 d2 d3 d4 r1 r2 r3 r4 _ _ _ _ w h1 h2 h3 h4 hm1 hm2
 have hR := fun (w : World) (B1 B2 : Option Addr) (j1 d1 j2 d2 : Nat) (h1 : Wat w B1 j1 (digs (qnum na da * qden db - qnum nb db * qden da).natAbs)) (hd1 : j1 ≤ d1) (h2 : Wat w B2 j2 (digs (qden da * qden db).natAbs)) (hd2 : j2 ≤ d2) => reduce_in HO h1 hd1 h2 hd2 hm3 hm4 hp
 have P1 := fun W hW => parts_in (w := W) (h := ha.below (w' := W) hW)
 have P2 := fun W hW => parts_in (w := W) (h := hb.below (w' := W) hW)
 generalize mkRat (qnum na da * qden db - qnum nb db * qden da) (qden da * qden db).natAbs = q at *
 generalize qnum na da * qden db - qnum nb db * qden da = zn at *
 generalize qden da * qden db = zd at *
 generalize qnum na da = x1 at *
 generalize qden da = x2 at *
 generalize qnum nb db = x3 at *
 generalize qden db = x4 at *
 have HO' := Lib.hid hO
 have HR := Lib.hid hR
 have P1 := Lib.hid P1
 have P2 := Lib.hid P2
 have hfld := field_op
 clear hO hR hm3 hm4 hp ha hb HO hm1 hm2
 go_enter Tryz.func92, Tryz.ntmps92
 go_wp2_with fail
 obtain ⟨hB0, hB1, hB2, hBW, hsz⟩ := pre3 w 42 #[.bool an, .slice aA ak ac, .bool an', .slice aA' ak' ac'] 42 #[.bool bn, .slice bA bk bc, .bool bn', .slice bA' bk' bc'] 42 #[.bool false, .slice none 0 0, .bool false, .slice none 0 0]
 generalize ((w.alloc (.cells #[.bool an, .slice aA ak ac, .bool an', .slice aA' ak' ac'] 42)).alloc (.cells #[.bool bn, .slice bA bk bc, .bool bn', .slice bA' bk' bc'] 42)).alloc (.cells #[.bool false, .slice none 0 0, .bool false, .slice none 0 0] 42) = W at *
 have HSZ := Lib.hid hsz
 clear hsz
 refine (P1.out W hBW).mono ?_
 rintro e w1 ⟨m1, B1, j1, d1, r1, m2, B2, j2, d2, r2, rfl, hj1, hj2, hl1, hl2, hW1, hW2, hs1, hs2, hb1⟩
 have hB0 := hB0.below hb1 hB0.lt
 have hB1 := hB1.below hb1 hB1.lt
 have hB2 := hB2.below hb1 hB2.lt
 have hBW : Below w.heap.size w w1 := hBW.trans (hb1.mono hBW.size)
 have Z1 : ZIn w1 m1 B1 j1 d1 r1 x1 := ⟨hW1, hj1, hl1, hs1⟩
 have Z2 : ZIn w1 m2 B2 j2 d2 r2 x2 := ⟨hW2, hj2, hl2, hs2⟩
 have hz1 : w.heap.size + 1 + 1 + 1 ≤ w1.heap.size := hB2.lt
 have hB1 := (hB1.alloc (.cells #[.bool m1, .slice B1 j1 d1] 40)).alloc (.cells #[.bool m2, .slice B2 j2 d2] 40)
 have hB2 := (hB2.alloc (.cells #[.bool m1, .slice B1 j1 d1] 40)).alloc (.cells #[.bool m2, .slice B2 j2 d2] 40)
 obtain ⟨c0, c1, c2, c3, -, -, -, -⟩ := hB1.four
 clear hW1 hW2 hs1 hs2 hb1 hB0 HSZ P1
 go_wp2_with fail
 clear c0 c1 c2 c3
 have hC0 := (Blk.new w1 40 #[.bool m1, .slice B1 j1 d1]).alloc (.cells #[.bool m2, .slice B2 j2 d2] 40)
 have hC1 := Blk.new1 w1 (.cells #[.bool m1, .slice B1 j1 d1] 40) 40 #[.bool m2, .slice B2 j2 d2]
 have hBa : Below w1.heap.size w1 ((w1.alloc (.cells #[.bool m1, .slice B1 j1 d1] 40)).alloc (.cells #[.bool m2, .slice B2 j2 d2] 40)) := ((Below.refl _ _).alloc (Nat.le_refl _) _).alloc (by simp only [World.size_alloc]; omega) _
 have hsz : ((w1.alloc (.cells #[.bool m1, .slice B1 j1 d1] 40)).alloc (.cells #[.bool m2, .slice B2 j2 d2] 40)).heap.size = w1.heap.size + 1 + 1 := by simp
 generalize (w1.alloc (.cells #[.bool m1, .slice B1 j1 d1] 40)).alloc (.cells #[.bool m2, .slice B2 j2 d2] 40) = Wa at *
 have HSA := Lib.hid hsz
 clear hsz
 have hBa' : Below w.heap.size w Wa := hBW.trans (hBa.mono hBW.size)
 have Z1 := Z1.below hBa
 have Z2 := Z2.below hBa
 refine (P2.out Wa hBa').mono ?_
 rintro e w2 ⟨m3, B3, j3, d3, r3, m4, B4, j4, d4, r4, rfl, hj3, hj4, hl3, hl4, hW3, hW4, hs3, hs4, hb2⟩
 have hB2 := hB2.below hb2 hB2.lt
 have hC0 := hC0.below hb2 hC0.lt
 have hC1 := hC1.below hb2 hC1.lt
 have Z1 := Z1.below hb2
 have Z2 := Z2.below hb2
 have hz2 : Wa.heap.size ≤ w2.heap.size := hb2.size
 have hBb : Below w.heap.size w w2 := hBa'.trans (hb2.mono hBa'.size)
 have Z3 : ZIn w2 m3 B3 j3 d3 r3 x3 := ⟨hW3, hj3, hl3, hs3⟩
 have Z4 : ZIn w2 m4 B4 j4 d4 r4 x4 := ⟨hW4, hj4, hl4, hs4⟩
 have hza : w1.heap.size + 1 + 1 ≤ w2.heap.size := by have := HSA.out; omega
 clear hW3 hW4 hs3 hs4 hb2 hB1 P2 hBa hBa' hBW hz2
 go_wp2_with fail
 have hB2 := (hB2.alloc (.cells #[.bool m3, .slice B3 j3 d3] 40)).alloc (.cells #[.bool m4, .slice B4 j4 d4] 40)
 have hC0 := (hC0.alloc (.cells #[.bool m3, .slice B3 j3 d3] 40)).alloc (.cells #[.bool m4, .slice B4 j4 d4] 40)
 have hC1 := (hC1.alloc (.cells #[.bool m3, .slice B3 j3 d3] 40)).alloc (.cells #[.bool m4, .slice B4 j4 d4] 40)
 have hD0 := (Blk.new w2 40 #[.bool m3, .slice B3 j3 d3]).alloc (.cells #[.bool m4, .slice B4 j4 d4] 40)
 have hD1 := Blk.new1 w2 (.cells #[.bool m3, .slice B3 j3 d3] 40) 40 #[.bool m4, .slice B4 j4 d4]
 have hBc : Below w2.heap.size w2 ((w2.alloc (.cells #[.bool m3, .slice B3 j3 d3] 40)).alloc (.cells #[.bool m4, .slice B4 j4 d4] 40)) := ((Below.refl _ _).alloc (Nat.le_refl _) _).alloc (by simp only [World.size_alloc]; omega) _
 have hsz : ((w2.alloc (.cells #[.bool m3, .slice B3 j3 d3] 40)).alloc (.cells #[.bool m4, .slice B4 j4 d4] 40)).heap.size = w2.heap.size + 1 + 1 := by simp
 generalize (w2.alloc (.cells #[.bool m3, .slice B3 j3 d3] 40)).alloc (.cells #[.bool m4, .slice B4 j4 d4] 40) = Wb at *
 have HSB := Lib.hid hsz
 clear hsz
 have hBW : Below w.heap.size w Wb := hBb.trans (hBc.mono hBb.size)
 have hZ : ∀ w', Below Wb.heap.size Wb w' → ZIn w' m1 B1 j1 d1 r1 x1 ∧ ZIn w' m2 B2 j2 d2 r2 x2 ∧ ZIn w' m3 B3 j3 d3 r3 x3 ∧ ZIn w' m4 B4 j4 d4 r4 x4 := fun w' hb => ⟨(Z1.below hBc).below hb, (Z2.below hBc).below hb, (Z3.below hBc).below hb, (Z4.below hBc).below hb⟩
 have HZ := Lib.hid hZ
 have hzb : w2.heap.size + 1 + 1 = Wb.heap.size := HSB.out.symm
 have HZB := Lib.hid hzb
 clear hZ Z1 Z2 Z3 Z4 hBc hBb HSB hzb
 have s4 := RG4.start hB2
 have s5 := Kp.refl Wb
 have hS : ∀ w', RG4 (w.heap.size + 1 + 1) 42 Wb w' → (w'.cell? ⟨w1.heap.size, 0, none⟩ = some (.bool m1) ∧ w'.cell? ⟨w1.heap.size, 1, none⟩ = some (.slice B1 j1 d1) ∧ w'.cell? ⟨w1.heap.size + 1, 0, none⟩ = some (.bool m2) ∧ w'.cell? ⟨w1.heap.size + 1, 1, none⟩ = some (.slice B2 j2 d2) ∧ w'.cell? ⟨w2.heap.size, 0, none⟩ = some (.bool m3) ∧ w'.cell? ⟨w2.heap.size, 1, none⟩ = some (.slice B3 j3 d3) ∧ w'.cell? ⟨w2.heap.size + 1, 0, none⟩ = some (.bool m4) ∧ w'.cell? ⟨w2.heap.size + 1, 1, none⟩ = some (.slice B4 j4 d4)) ∧ RG4 (w.heap.size + 1 + 1) 42 Wb w' := fun w' hk => ⟨⟨(hk.blk hC0 (by omega)).cell 0, (hk.blk hC0 (by omega)).cell 1, (hk.blk hC1 (by omega)).cell 0, (hk.blk hC1 (by omega)).cell 1, (hk.blk hD0 (by omega)).cell 0, (hk.blk hD0 (by omega)).cell 1, (hk.blk hD1 (by omega)).cell 0, (hk.blk hD1 (by omega)).cell 1⟩, hk⟩
 have HS := Lib.hid hS
 clear hS
 clear hB2 hC0 hC1 hD0 hD1
 go_region_held3 (fun w' => (w'.cell? ⟨w1.heap.size, 0, none⟩ = some (.bool m1) ∧ w'.cell? ⟨w1.heap.size, 1, none⟩ = some (.slice B1 j1 d1) ∧ w'.cell? ⟨w1.heap.size + 1, 0, none⟩ = some (.bool m2) ∧ w'.cell? ⟨w1.heap.size + 1, 1, none⟩ = some (.slice B2 j2 d2) ∧ w'.cell? ⟨w2.heap.size, 0, none⟩ = some (.bool m3) ∧ w'.cell? ⟨w2.heap.size, 1, none⟩ = some (.slice B3 j3 d3) ∧ w'.cell? ⟨w2.heap.size + 1, 0, none⟩ = some (.bool m4) ∧ w'.cell? ⟨w2.heap.size + 1, 1, none⟩ = some (.slice B4 j4 d4)) ∧ RG4 (w.heap.size + 1 + 1) 42 Wb w')
  (first | (with_reducible refine HS.out _ ?_; with_reducible assumption) | (with_reducible refine HS.out _ (RG4.drew ?_); with_reducible assumption) | (with_reducible refine' HS.out _ (RG4.drew (And.right ?_)); rotate_left; with_reducible assumption) | (with_reducible refine' HS.out _ (RG4.set (And.right ?_) _ _ _ _); rotate_left; with_reducible assumption))
  (first
   | (go_at_call 139; have hk := And.right ‹_ ∧ RG4 (w.heap.size + 1 + 1) 42 Wb _›; refine (operations_any _).mono ?_; rintro e v1 ⟨rfl, hmap, hb1⟩; have hr1 := hk.call hb1; have hlk := look_sub v1 Wb.heap.size hmap; have hp1 : Kp Wb v1 := Kp.trans (Kp.drew s5) hb1; clear hmap hb1)
   | (go_at_call 192; have hk := And.right ‹_ ∧ RG4 (w.heap.size + 1 + 1) 42 Wb _›; refine (HO'.out m1 m2 m3 m4 B1 B2 B3 B4 j1 j2 j3 j4 d1 d2 d3 d4 r1 r2 r3 r4 _ (HZ.out _ hp1).1 (HZ.out _ hp1).2.1 (HZ.out _ hp1).2.2.1 (HZ.out _ hp1).2.2.2).mono ?_; rintro e v2 ⟨X1, u1, y1, X2, u2, y2, rfl, hk1, hk2, hX1, hX2, hb2⟩; have hr2 := hk.call hb2; have hp2 : Kp Wb v2 := Kp.trans hp1 hb2; clear hb2)
   | (go_at_call 111; have hk := And.right ‹_ ∧ RG4 (w.heap.size + 1 + 1) 42 Wb _›; refine (HR.out _ X1 X2 u1 y1 u2 y2 hX1 hk1 hX2 hk2).mono ?_; rintro e v3 ⟨A3, k3, c3, A4, k4, c4, rfl, hk3, hk4, hW3, hW4, hF3, hF4, hb3⟩; have hz3 := Below.size hp2; have hr3 := hk.call hb3; obtain ⟨_, _, _, _, i0, i1, i2, i3, i4, i5, i6, i7⟩ := hr3.four))
 have hgw : w.heap.size + 1 + 1 < Wb.heap.size := by have := HZB.out; omega
 have hr4 := hr3.rs (Nat.le_of_lt hgw)
 have HSZ : Hid (True) := trivial
 have hfin := retQ_close hBW (by omega) (by have := HSZ.out; omega) hr4 hk3 hk4 hW3 hW4 hF3 hF4
 obtain ⟨d0, d1, d2, d3, -, -, -, -⟩ := (hr4.done (.bool (decide ((q).num < 0))) (.slice A3 k3 c3) (.bool false) (.slice A4 k4 c4)).four
 have HF := Lib.hid hfin
 clear hfin hr4 s5 hp1 hp2
 go_wp2
 refine bodyPost_ret (v := .agg #[.bool (decide ((q).num < 0)), .slice A3 k3 c3, .bool false, .slice A4 k4 c4]) ?_ rfl HF.out
 simp [results, Tryz.results92, go_sem, d0, d1, d2, d3]


set_option maxRecDepth 100000 in
set_option maxHeartbeats 8000000 in
theorem calc_mul (M : Nat) (HO : WOK M) (an an' bn bn' : Bool) (aA aA' bA bA' : Option Addr) (ak ac ak' ac' bk bc bk' bc' : Nat) (na da nb db : Int) (w : World)
  (ha : QIn w an aA ak ac an' aA' ak' ac' na da) (hb : QIn w bn bA bk bc bn' bA' bk' bc' nb db) (hm3 : (qnum na da * qnum nb db).natAbs < M) (hm4 : (qden da * qden db).natAbs < M) :
  Calls Tryz.prog 92 #[.int .u8 42, .agg #[.bool an, .slice aA ak ac, .bool an', .slice aA' ak' ac'], .agg #[.bool bn, .slice bA bk bc, .bool bn', .slice bA' bk' bc']] w (RetQ w (mkRat (qnum na da * qnum nb db) (qden da * qden db).natAbs)) := by
 have hp : 0 < qden da * qden db := Int.mul_pos (qden_pos da) (qden_pos db)
 have hO := fun (m1 m2 m3 m4 : Bool) (B1 B2 B3 B4 : Option Addr) (j1 j2 j3 j4 d1 d2 d3 d4 : Nat) (r1 r2 r3 r4 : List Nat) (w : World)
  (h1 : ZIn w m1 B1 j1 d1 r1 (qnum na da)) (h2 : ZIn w m2 B2 j2 d2 r2 (qden da)) (h3 : ZIn w m3 B3 j3 d3 r3 (qnum nb db)) (h4 : ZIn w m4 B4 j4 d4 r4 (qden db)) => op_mul M HO m1 m2 m3 m4 B1 B2 B3 B4 j1 j2 j3 j4 d1 d2 d3 d4 r1 r2 r3 r4 _ _ _ _ w h1 h2 h3 h4
 have hR := fun (w : World) (B1 B2 : Option Addr) (j1 d1 j2 d2 : Nat) (h1 : Wat w B1 j1 (digs (qnum na da * qnum nb db).natAbs)) (hd1 : j1 ≤ d1) (h2 : Wat w B2 j2 (digs (qden da * qden db).natAbs)) (hd2 : j2 ≤ d2) => reduce_in HO h1 hd1 h2 hd2 hm3 hm4 hp
 have P1 := fun W hW => parts_in (w := W) (h := ha.below (w' := W) hW)
 have P2 := fun W hW => parts_in (w := W) (h := hb.below (w' := W) hW)
 generalize mkRat (qnum na da * qnum nb db) (qden da * qden db).natAbs = q at *
 generalize qnum na da * qnum nb db = zn at *
 generalize qden da * qden db = zd at *
 generalize qnum na da = x1 at *
 generalize qden da = x2 at *
 generalize qnum nb db = x3 at *
 generalize qden db = x4 at *
 have HO' := Lib.hid hO
 have HR := Lib.hid hR
 have P1 := Lib.hid P1
 have P2 := Lib.hid P2
 have hfld := field_op
 clear hO hR hm3 hm4 hp ha hb HO
 go_enter Tryz.func92, Tryz.ntmps92
 go_wp2_with fail
 obtain ⟨hB0, hB1, hB2, hBW, hsz⟩ := pre3 w 42 #[.bool an, .slice aA ak ac, .bool an', .slice aA' ak' ac'] 42 #[.bool bn, .slice bA bk bc, .bool bn', .slice bA' bk' bc'] 42 #[.bool false, .slice none 0 0, .bool false, .slice none 0 0]
 generalize ((w.alloc (.cells #[.bool an, .slice aA ak ac, .bool an', .slice aA' ak' ac'] 42)).alloc (.cells #[.bool bn, .slice bA bk bc, .bool bn', .slice bA' bk' bc'] 42)).alloc (.cells #[.bool false, .slice none 0 0, .bool false, .slice none 0 0] 42) = W at *
 have HSZ := Lib.hid hsz
 clear hsz
 refine (P1.out W hBW).mono ?_
 rintro e w1 ⟨m1, B1, j1, d1, r1, m2, B2, j2, d2, r2, rfl, hj1, hj2, hl1, hl2, hW1, hW2, hs1, hs2, hb1⟩
 have hB0 := hB0.below hb1 hB0.lt
 have hB1 := hB1.below hb1 hB1.lt
 have hB2 := hB2.below hb1 hB2.lt
 have hBW : Below w.heap.size w w1 := hBW.trans (hb1.mono hBW.size)
 have Z1 : ZIn w1 m1 B1 j1 d1 r1 x1 := ⟨hW1, hj1, hl1, hs1⟩
 have Z2 : ZIn w1 m2 B2 j2 d2 r2 x2 := ⟨hW2, hj2, hl2, hs2⟩
 have hz1 : w.heap.size + 1 + 1 + 1 ≤ w1.heap.size := hB2.lt
 have hB1 := (hB1.alloc (.cells #[.bool m1, .slice B1 j1 d1] 40)).alloc (.cells #[.bool m2, .slice B2 j2 d2] 40)
 have hB2 := (hB2.alloc (.cells #[.bool m1, .slice B1 j1 d1] 40)).alloc (.cells #[.bool m2, .slice B2 j2 d2] 40)
 obtain ⟨c0, c1, c2, c3, -, -, -, -⟩ := hB1.four
 clear hW1 hW2 hs1 hs2 hb1 hB0 HSZ P1
 go_wp2_with fail
 clear c0 c1 c2 c3
 have hC0 := (Blk.new w1 40 #[.bool m1, .slice B1 j1 d1]).alloc (.cells #[.bool m2, .slice B2 j2 d2] 40)
 have hC1 := Blk.new1 w1 (.cells #[.bool m1, .slice B1 j1 d1] 40) 40 #[.bool m2, .slice B2 j2 d2]
 have hBa : Below w1.heap.size w1 ((w1.alloc (.cells #[.bool m1, .slice B1 j1 d1] 40)).alloc (.cells #[.bool m2, .slice B2 j2 d2] 40)) := ((Below.refl _ _).alloc (Nat.le_refl _) _).alloc (by simp only [World.size_alloc]; omega) _
 have hsz : ((w1.alloc (.cells #[.bool m1, .slice B1 j1 d1] 40)).alloc (.cells #[.bool m2, .slice B2 j2 d2] 40)).heap.size = w1.heap.size + 1 + 1 := by simp
 generalize (w1.alloc (.cells #[.bool m1, .slice B1 j1 d1] 40)).alloc (.cells #[.bool m2, .slice B2 j2 d2] 40) = Wa at *
 have HSA := Lib.hid hsz
 clear hsz
 have hBa' : Below w.heap.size w Wa := hBW.trans (hBa.mono hBW.size)
 have Z1 := Z1.below hBa
 have Z2 := Z2.below hBa
 refine (P2.out Wa hBa').mono ?_
 rintro e w2 ⟨m3, B3, j3, d3, r3, m4, B4, j4, d4, r4, rfl, hj3, hj4, hl3, hl4, hW3, hW4, hs3, hs4, hb2⟩
 have hB2 := hB2.below hb2 hB2.lt
 have hC0 := hC0.below hb2 hC0.lt
 have hC1 := hC1.below hb2 hC1.lt
 have Z1 := Z1.below hb2
 have Z2 := Z2.below hb2
 have hz2 : Wa.heap.size ≤ w2.heap.size := hb2.size
 have hBb : Below w.heap.size w w2 := hBa'.trans (hb2.mono hBa'.size)
 have Z3 : ZIn w2 m3 B3 j3 d3 r3 x3 := ⟨hW3, hj3, hl3, hs3⟩
 have Z4 : ZIn w2 m4 B4 j4 d4 r4 x4 := ⟨hW4, hj4, hl4, hs4⟩
 have hza : w1.heap.size + 1 + 1 ≤ w2.heap.size := by have := HSA.out; omega
 clear hW3 hW4 hs3 hs4 hb2 hB1 P2 hBa hBa' hBW hz2
 go_wp2_with fail
 have hB2 := (hB2.alloc (.cells #[.bool m3, .slice B3 j3 d3] 40)).alloc (.cells #[.bool m4, .slice B4 j4 d4] 40)
 have hC0 := (hC0.alloc (.cells #[.bool m3, .slice B3 j3 d3] 40)).alloc (.cells #[.bool m4, .slice B4 j4 d4] 40)
 have hC1 := (hC1.alloc (.cells #[.bool m3, .slice B3 j3 d3] 40)).alloc (.cells #[.bool m4, .slice B4 j4 d4] 40)
 have hD0 := (Blk.new w2 40 #[.bool m3, .slice B3 j3 d3]).alloc (.cells #[.bool m4, .slice B4 j4 d4] 40)
 have hD1 := Blk.new1 w2 (.cells #[.bool m3, .slice B3 j3 d3] 40) 40 #[.bool m4, .slice B4 j4 d4]
 have hBc : Below w2.heap.size w2 ((w2.alloc (.cells #[.bool m3, .slice B3 j3 d3] 40)).alloc (.cells #[.bool m4, .slice B4 j4 d4] 40)) := ((Below.refl _ _).alloc (Nat.le_refl _) _).alloc (by simp only [World.size_alloc]; omega) _
 have hsz : ((w2.alloc (.cells #[.bool m3, .slice B3 j3 d3] 40)).alloc (.cells #[.bool m4, .slice B4 j4 d4] 40)).heap.size = w2.heap.size + 1 + 1 := by simp
 generalize (w2.alloc (.cells #[.bool m3, .slice B3 j3 d3] 40)).alloc (.cells #[.bool m4, .slice B4 j4 d4] 40) = Wb at *
 have HSB := Lib.hid hsz
 clear hsz
 have hBW : Below w.heap.size w Wb := hBb.trans (hBc.mono hBb.size)
 have hZ : ∀ w', Below Wb.heap.size Wb w' → ZIn w' m1 B1 j1 d1 r1 x1 ∧ ZIn w' m2 B2 j2 d2 r2 x2 ∧ ZIn w' m3 B3 j3 d3 r3 x3 ∧ ZIn w' m4 B4 j4 d4 r4 x4 := fun w' hb => ⟨(Z1.below hBc).below hb, (Z2.below hBc).below hb, (Z3.below hBc).below hb, (Z4.below hBc).below hb⟩
 have HZ := Lib.hid hZ
 have hzb : w2.heap.size + 1 + 1 = Wb.heap.size := HSB.out.symm
 have HZB := Lib.hid hzb
 clear hZ Z1 Z2 Z3 Z4 hBc hBb HSB hzb
 have s4 := RG4.start hB2
 have s5 := Kp.refl Wb
 have hS : ∀ w', RG4 (w.heap.size + 1 + 1) 42 Wb w' → (w'.cell? ⟨w1.heap.size, 0, none⟩ = some (.bool m1) ∧ w'.cell? ⟨w1.heap.size, 1, none⟩ = some (.slice B1 j1 d1) ∧ w'.cell? ⟨w1.heap.size + 1, 0, none⟩ = some (.bool m2) ∧ w'.cell? ⟨w1.heap.size + 1, 1, none⟩ = some (.slice B2 j2 d2) ∧ w'.cell? ⟨w2.heap.size, 0, none⟩ = some (.bool m3) ∧ w'.cell? ⟨w2.heap.size, 1, none⟩ = some (.slice B3 j3 d3) ∧ w'.cell? ⟨w2.heap.size + 1, 0, none⟩ = some (.bool m4) ∧ w'.cell? ⟨w2.heap.size + 1, 1, none⟩ = some (.slice B4 j4 d4)) ∧ RG4 (w.heap.size + 1 + 1) 42 Wb w' := fun w' hk => ⟨⟨(hk.blk hC0 (by omega)).cell 0, (hk.blk hC0 (by omega)).cell 1, (hk.blk hC1 (by omega)).cell 0, (hk.blk hC1 (by omega)).cell 1, (hk.blk hD0 (by omega)).cell 0, (hk.blk hD0 (by omega)).cell 1, (hk.blk hD1 (by omega)).cell 0, (hk.blk hD1 (by omega)).cell 1⟩, hk⟩
 have HS := Lib.hid hS
 clear hS
 clear hB2 hC0 hC1 hD0 hD1
 go_region_held3 (fun w' => (w'.cell? ⟨w1.heap.size, 0, none⟩ = some (.bool m1) ∧ w'.cell? ⟨w1.heap.size, 1, none⟩ = some (.slice B1 j1 d1) ∧ w'.cell? ⟨w1.heap.size + 1, 0, none⟩ = some (.bool m2) ∧ w'.cell? ⟨w1.heap.size + 1, 1, none⟩ = some (.slice B2 j2 d2) ∧ w'.cell? ⟨w2.heap.size, 0, none⟩ = some (.bool m3) ∧ w'.cell? ⟨w2.heap.size, 1, none⟩ = some (.slice B3 j3 d3) ∧ w'.cell? ⟨w2.heap.size + 1, 0, none⟩ = some (.bool m4) ∧ w'.cell? ⟨w2.heap.size + 1, 1, none⟩ = some (.slice B4 j4 d4)) ∧ RG4 (w.heap.size + 1 + 1) 42 Wb w')
  (first | (with_reducible refine HS.out _ ?_; with_reducible assumption) | (with_reducible refine HS.out _ (RG4.drew ?_); with_reducible assumption) | (with_reducible refine' HS.out _ (RG4.drew (And.right ?_)); rotate_left; with_reducible assumption) | (with_reducible refine' HS.out _ (RG4.set (And.right ?_) _ _ _ _); rotate_left; with_reducible assumption))
  (first
   | (go_at_call 139; have hk := And.right ‹_ ∧ RG4 (w.heap.size + 1 + 1) 42 Wb _›; refine (operations_any _).mono ?_; rintro e v1 ⟨rfl, hmap, hb1⟩; have hr1 := hk.call hb1; have hlk := look_mul v1 Wb.heap.size hmap; have hp1 : Kp Wb v1 := Kp.trans (Kp.drew s5) hb1; clear hmap hb1)
   | (go_at_call 194; have hk := And.right ‹_ ∧ RG4 (w.heap.size + 1 + 1) 42 Wb _›; refine (HO'.out m1 m2 m3 m4 B1 B2 B3 B4 j1 j2 j3 j4 d1 d2 d3 d4 r1 r2 r3 r4 _ (HZ.out _ hp1).1 (HZ.out _ hp1).2.1 (HZ.out _ hp1).2.2.1 (HZ.out _ hp1).2.2.2).mono ?_; rintro e v2 ⟨X1, u1, y1, X2, u2, y2, rfl, hk1, hk2, hX1, hX2, hb2⟩; have hr2 := hk.call hb2; have hp2 : Kp Wb v2 := Kp.trans hp1 hb2; clear hb2)
   | (go_at_call 111; have hk := And.right ‹_ ∧ RG4 (w.heap.size + 1 + 1) 42 Wb _›; refine (HR.out _ X1 X2 u1 y1 u2 y2 hX1 hk1 hX2 hk2).mono ?_; rintro e v3 ⟨A3, k3, c3, A4, k4, c4, rfl, hk3, hk4, hW3, hW4, hF3, hF4, hb3⟩; have hz3 := Below.size hp2; have hr3 := hk.call hb3; obtain ⟨_, _, _, _, i0, i1, i2, i3, i4, i5, i6, i7⟩ := hr3.four))
 have hgw : w.heap.size + 1 + 1 < Wb.heap.size := by have := HZB.out; omega
 have hr4 := hr3.rs (Nat.le_of_lt hgw)
 have HSZ : Hid (True) := trivial
 have hfin := retQ_close hBW (by omega) (by have := HSZ.out; omega) hr4 hk3 hk4 hW3 hW4 hF3 hF4
 obtain ⟨d0, d1, d2, d3, -, -, -, -⟩ := (hr4.done (.bool (decide ((q).num < 0))) (.slice A3 k3 c3) (.bool false) (.slice A4 k4 c4)).four
 have HF := Lib.hid hfin
 clear hfin hr4 s5 hp1 hp2
 go_wp2
 refine bodyPost_ret (v := .agg #[.bool (decide ((q).num < 0)), .slice A3 k3 c3, .bool false, .slice A4 k4 c4]) ?_ rfl HF.out
 simp [results, Tryz.results92, go_sem, d0, d1, d2, d3]

end Go.Proofs.YtjajigkacccdgaaGreat
